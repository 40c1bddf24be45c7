
/- The first leaf that is not balanced, by the program and by the reference. -/
import Derived.Test.YtaidbdogolhnjaaG2
import Derived.Test.YtaidbdogolhnjaaG1
import Derived.Shelf.Abstract
import Derived.Deep.LoopGhost
import Derived.Test.YtaidbdogolhnjaaWMore
set_option linter.unusedVariables false
set_option linter.unusedSimpArgs false
namespace Go.Proofs.Ytaidbdogolhnjaa.U
open Go.RowKit Go.Lib Go.Proofs.YtaidbdogolhnjaaW.PrintWords

attribute [local go_sem] go_max2 go_min2
theorem impl_absolute' (x : Int) (w : World) (h : -100 ≤ x ∧ x ≤ 100) : Calls Try.prog 90 #[.int .i64 x] w fun e w' => e = .returned (.int .i64 (max x (-x))) ∧ w = w' := by
  have e1 : wrap64 (-x) = -x := w64 (by omega) (by omega)
  have e2 : bigMax x (-x) = max x (-x) := bigMax_max _ _
  go_enter Try.func90, Try.ntmps90
  go_wp2
  go_ret
  exact ⟨rfl, rfl⟩
theorem firstUn_stop (l : List Ce) (j : Nat) (h : ¬ j + 1 < l.length) : ∀ d, firstUn l d j = -1
  | 0 => rfl
  | d + 1 => by rw [firstUn, if_neg h]
set_option maxHeartbeats 4000000 in
set_option maxRecDepth 100000 in
theorem impl_unbalanced (ro : Int) (A : Option Addr) (n c : Nat) (l : List Ce) (w : World) (r : IdR w A n l) (hv : Lvs l) : Calls Try.prog 61 #[.agg #[.int .i64 ro, .slice A n c]] w fun e w' => e = .returned (.int .i64 (unbal l)) ∧ Bw w w' := by
  have hmax := r.max
  have HL := hid r.len
  have b0 := Bw.box1 w (.cells #[.int .i64 ro, .slice A n c] 26)
  have c0 := box_cell (Bw.refl (w.alloc (.cells #[.int .i64 ro, .slice A n c] 26))) 0
  have c1 := box_cell (Bw.refl (w.alloc (.cells #[.int .i64 ro, .slice A n c] 26))) 1
  simp only [List.getElem?_toArray, List.getElem?_cons_zero, List.getElem?_cons_succ] at c0 c1
  obtain ⟨R, HR⟩ : ∃ R, Hid (R = firstUn l (n - 0) 0) := ⟨_, hid rfl⟩
  rw [show unbal l = R by rw [unbal, HR.out, HL.out]; rfl]
  have HV := hid hv
  clear hv
  have e0 : wrap64 ((n : Int) - 1) = (n : Int) - 1 := w64 (by omega) (by omega)
  go_enter Try.func61, Try.ntmps61
  go_wp2
  generalize (w.alloc (.cells #[.int .i64 ro, .slice A n c] 26)) = w0 at *
  go_loopw [8] (fun v8 wr => ∃ (j : Nat), (j : Int) ≤ n ∧ v8 = .int .i64 j ∧ Hid (R = firstUn l (n - j) j) ∧ Bw w0 wr) (fun v8 _ => n - (intOf v8).toNat)
  case atStart => exact ⟨0, by omega, rfl, HR, Bw.refl _⟩
  case round =>
    obtain ⟨j, hj, rfl, hE, hB⟩ := hrel
    replace c0 := pw_cell_below hB.out c0
    replace c1 := pw_cell_below hB.out c1
    by_cases hlt : j + 1 < n
    · have t1 : decide ((j : Int) < (n : Int) - 1) = true := decide_eq_true (by omega)
      have hnext : Hid (R = if (gc l j).l - (gc l (j + 1)).l > 1 ∨ (gc l j).l - (gc l (j + 1)).l < -1 then (j : Int) else firstUn l (n - (j + 1)) (j + 1)) := hid (by rw [hE.out, show n - j = (n - (j + 1)) + 1 by omega, firstUn, if_pos (by rw [HL.out]; exact hlt)])
      obtain ⟨ad, rfl, x0, x1, x2⟩ := ((r.to b0).to hB).at j (by omega)
      obtain ⟨_, ea, y0, y1, y2⟩ := ((r.to b0).to hB).at (j + 1) hlt
      obtain rfl := Option.some.inj ea
      have hvx := HV.out.out j (by rw [HL.out]; omega)
      have hvy := HV.out.out (j + 1) (by rw [HL.out]; omega)
      clear ea hE HR x0 x2 y0 y2
      generalize (gc l j).l = x at *
      generalize (gc l (j + 1)).l = y at *
      have e1 : IntKind.i64.wrap ((j : Int) + 1) = (j : Int) + 1 := i64w (by omega) (by omega)
      have e2 : IntKind.i64.wrap (x - y) = x - y := i64w (by omega) (by omega)
      have i0 : (0 : Int) ≤ (j : Int) + 1 := by omega
      have i1 : (j : Int) + 1 < (n : Int) := by omega
      have i2 : (j : Int) < (n : Int) := by omega
      have i3 : ((j : Int) + 1).toNat = j + 1 := by omega
      have i4 : (0 : Int) ≤ (j : Int) := by omega
      obtain ⟨z, hz⟩ : ∃ z, max (x - y) (-(x - y)) = z := ⟨_, rfl⟩
      by_cases hd : x - y > 1 ∨ x - y < -1
      · have hR : Hid (R = (j : Int)) := hid (by rw [hnext.out, if_pos hd])
        have t2 : decide (1 < z) = true := decide_eq_true (by omega)
        have HA := hid (show ∀ w : World, Calls Try.prog 90 #[.int .i64 (x - y)] w fun e w' => e = .returned (.int .i64 z) ∧ w = w' from fun w => by rw [← hz]; exact impl_absolute' (x - y) w (by omega))
        clear hd hnext hz hvx hvy
        go_wp2
        go_quiet ((go_at_call 90; exact quietV (HA.out _)))
        go_wp2
        go_ret
        exact ⟨ret_int hR.out.symm, (b0.trans hB).trans (Bw.drawn ⟨⟨_, rfl⟩⟩)⟩
      · have hR : Hid (R = firstUn l (n - (j + 1)) (j + 1)) := hid (by rw [hnext.out, if_neg hd])
        have t2 : decide (1 < z) = false := decide_eq_false (by omega)
        have HA := hid (show ∀ w : World, Calls Try.prog 90 #[.int .i64 (x - y)] w fun e w' => e = .returned (.int .i64 z) ∧ w = w' from fun w => by rw [← hz]; exact impl_absolute' (x - y) w (by omega))
        clear hd hnext hz hvx hvy
        go_wp2
        go_quiet ((go_at_call 90; exact quietV (HA.out _)))
        go_wp2
        go_roundw
        case rel => exact ⟨j + 1, by omega, by go_num, hR, hB.trans (Bw.drawn ⟨⟨_, rfl⟩⟩)⟩
        case measure => simp [intOf]; omega
    · have t1 : decide ((j : Int) < (n : Int) - 1) = false := decide_eq_false (by omega)
      have hR : Hid (R = -1) := hid (by rw [hE.out, firstUn_stop l j (by rw [HL.out]; exact hlt)])
      clear hE HR
      go_wp2
      go_ret
      exact ⟨ret_int hR.out.symm, b0.trans hB⟩
set_option maxHeartbeats 4000000 in
set_option maxRecDepth 100000 in
theorem spec_l05First (ro : Int) (A : Option Addr) (n c : Nat) (l : List Ce) (w : World) (r : IdR w A n l) (hv : Lvs l) : Calls Try.prog 67 #[.agg #[.int .i64 ro, .slice A n c]] w fun e w' => e = .returned (.int .i64 (unbal l)) ∧ Bw w w' := by
  have hmax := r.max
  have HL := hid r.len
  have b0 := Bw.box1 w (.cells #[.int .i64 ro, .slice A n c] 26)
  have c0 := box_cell (Bw.refl (w.alloc (.cells #[.int .i64 ro, .slice A n c] 26))) 0
  have c1 := box_cell (Bw.refl (w.alloc (.cells #[.int .i64 ro, .slice A n c] 26))) 1
  simp only [List.getElem?_toArray, List.getElem?_cons_zero, List.getElem?_cons_succ] at c0 c1
  obtain ⟨R, HR⟩ : ∃ R, Hid (R = firstUn l (n - 0) 0) := ⟨_, hid rfl⟩
  rw [show unbal l = R by rw [unbal, HR.out, HL.out]; rfl]
  have HV := hid hv
  clear hv
  go_enter Try.func67, Try.ntmps67
  go_wp2
  generalize (w.alloc (.cells #[.int .i64 ro, .slice A n c] 26)) = w0 at *
  go_loopw [3] (fun v8 wr => ∃ (j : Nat), (j < n ∨ j = 0) ∧ v8 = .int .i64 j ∧ Hid (R = firstUn l (n - j) j) ∧ Bw w0 wr) (fun v8 _ => n - (intOf v8).toNat)
  case atStart => exact ⟨0, by omega, rfl, HR, Bw.refl _⟩
  case round =>
    obtain ⟨j, hj, rfl, hE, hB⟩ := hrel
    have hjm : (j : Int) + 1 ≤ 9223372036854775807 := by omega
    replace c0 := pw_cell_below hB.out c0
    replace c1 := pw_cell_below hB.out c1
    by_cases hlt : j + 1 < n
    · have t1 : decide ((j : Int) + 1 < (n : Int)) = true := decide_eq_true (by omega)
      have hnext : Hid (R = if (gc l j).l - (gc l (j + 1)).l > 1 ∨ (gc l j).l - (gc l (j + 1)).l < -1 then (j : Int) else firstUn l (n - (j + 1)) (j + 1)) := hid (by rw [hE.out, show n - j = (n - (j + 1)) + 1 by omega, firstUn, if_pos (by rw [HL.out]; exact hlt)])
      obtain ⟨ad, rfl, x0, x1, x2⟩ := ((r.to b0).to hB).at j (by omega)
      obtain ⟨_, ea, y0, y1, y2⟩ := ((r.to b0).to hB).at (j + 1) hlt
      obtain rfl := Option.some.inj ea
      have hvx := HV.out.out j (by rw [HL.out]; omega)
      have hvy := HV.out.out (j + 1) (by rw [HL.out]; omega)
      clear ea hE HR x0 x2 y0 y2
      generalize (gc l j).l = x at *
      generalize (gc l (j + 1)).l = y at *
      have e1 : IntKind.i64.wrap ((j : Int) + 1) = (j : Int) + 1 := i64w (by omega) (by omega)
      have e2 : IntKind.i64.wrap (x - y) = x - y := i64w (by omega) (by omega)
      have i0 : (0 : Int) ≤ (j : Int) + 1 := by omega
      have i1 : (j : Int) + 1 < (n : Int) := by omega
      have i2 : (j : Int) < (n : Int) := by omega
      have i3 : ((j : Int) + 1).toNat = j + 1 := by omega
      have i4 : (0 : Int) ≤ (j : Int) := by omega
      obtain ⟨z, hz⟩ : ∃ z, x - y = z := ⟨_, rfl⟩
      rw [hz] at e2 hnext
      by_cases hd1 : z > 1
      · have hR : Hid (R = (j : Int)) := hid (by rw [hnext.out, if_pos (.inl hd1)])
        have t2 : decide (1 < z) = true := decide_eq_true (by omega)
        clear hd1 hnext hvx hvy
        go_wp2
        go_quiet (fail)
        go_wp2
        go_ret
        exact ⟨ret_int hR.out.symm, (b0.trans hB).trans (Bw.drawn ⟨⟨_, rfl⟩⟩)⟩
      · have t2 : decide (1 < z) = false := decide_eq_false (by omega)
        by_cases hd2 : z < -1
        · have hR : Hid (R = (j : Int)) := hid (by rw [hnext.out, if_pos (.inr hd2)])
          have t3 : decide (z < -1) = true := decide_eq_true (by omega)
          clear hd1 hd2 hnext hvx hvy
          go_wp2
          go_quiet (fail)
          go_wp2
          go_ret
          exact ⟨ret_int hR.out.symm, (b0.trans hB).trans (Bw.drawn ⟨⟨_, rfl⟩⟩)⟩
        · have hR : Hid (R = firstUn l (n - (j + 1)) (j + 1)) := hid (by rw [hnext.out, if_neg (fun h => h.elim hd1 hd2)])
          have t3 : decide (z < -1) = false := decide_eq_false (by omega)
          clear hd1 hd2 hnext hvx hvy
          go_wp2
          go_quiet (fail)
          go_wp2
          go_roundw
          case rel => exact ⟨j + 1, by omega, by go_num, hR, hB.trans (Bw.drawn ⟨⟨_, rfl⟩⟩)⟩
          case measure => simp [intOf]; omega
    · have t1 : decide ((j : Int) + 1 < (n : Int)) = false := decide_eq_false (by omega)
      have hR : Hid (R = -1) := hid (by rw [hE.out, firstUn_stop l j (by rw [HL.out]; exact hlt)])
      clear hE HR
      go_wp2
      go_ret
      exact ⟨ret_int hR.out.symm, b0.trans hB⟩
set_option maxHeartbeats 2000000 in
theorem impl_IsBalanced (ro : Int) (A : Option Addr) (n c : Nat) (l : List Ce) (w : World) (r : IdR w A n l) : Calls Try.prog 31 #[.agg #[.int .i64 ro, .slice A n c]] w fun e w' => e = .returned (.bool (isBal ro l)) ∧ Bw w w' := by
  have hmax := r.max
  have HL := hid r.len
  have b0 := Bw.box1 w (.cells #[.int .i64 ro, .slice A n c] 26)
  have c0 := box_cell (Bw.refl (w.alloc (.cells #[.int .i64 ro, .slice A n c] 26))) 0
  have c1 := box_cell (Bw.refl (w.alloc (.cells #[.int .i64 ro, .slice A n c] 26))) 1
  simp only [List.getElem?_toArray, List.getElem?_cons_zero, List.getElem?_cons_succ] at c0 c1
  cases hm : meshOk ro l with
  | false =>
    rw [show isBal ro l = false by simp [isBal, hm]]
    have H := hid hm; clear hm
    go_enter Try.func31, Try.ntmps31
    go_wp2_with fail
    refine (impl_MeshOk ro A n c l _ (r.to b0)).mono ?_
    rintro e w1 ⟨rfl, b1⟩
    rw [H.out]
    go_wp2
    go_ret
    exact ⟨rfl, b0.trans b1⟩
  | true =>
    rw [show isBal ro l = decide (unbal l < 0) by simp [isBal, hm]]
    have hv := meshOk_lvs hm
    have H := hid hm; clear hm
    go_enter Try.func31, Try.ntmps31
    go_wp2_with fail
    refine (impl_MeshOk ro A n c l _ (r.to b0)).mono ?_
    rintro e w1 ⟨rfl, b1⟩
    rw [H.out]
    replace c0 := pw_cell_below b1.out c0
    replace c1 := pw_cell_below b1.out c1
    go_wp2_with fail
    refine (impl_unbalanced ro A n c l _ ((r.to b0).to b1) hv).mono ?_
    rintro e w2 ⟨rfl, b2⟩
    go_wp2
    go_ret
    exact ⟨rfl, (b0.trans b1).trans b2⟩
set_option maxHeartbeats 2000000 in
theorem spec_IsBalanced (ro : Int) (A : Option Addr) (n c : Nat) (l : List Ce) (w : World) (r : IdR w A n l) : Calls Try.prog 36 #[.agg #[.int .i64 ro, .slice A n c]] w fun e w' => e = .returned (.bool (isBal ro l)) ∧ Bw w w' := by
  have hmax := r.max
  have HL := hid r.len
  have b0 := Bw.box1 w (.cells #[.int .i64 ro, .slice A n c] 26)
  have c0 := box_cell (Bw.refl (w.alloc (.cells #[.int .i64 ro, .slice A n c] 26))) 0
  have c1 := box_cell (Bw.refl (w.alloc (.cells #[.int .i64 ro, .slice A n c] 26))) 1
  simp only [List.getElem?_toArray, List.getElem?_cons_zero, List.getElem?_cons_succ] at c0 c1
  cases hm : meshOk ro l with
  | false =>
    rw [show isBal ro l = false by simp [isBal, hm]]
    have H := hid hm; clear hm
    go_enter Try.func36, Try.ntmps36
    go_wp2_with fail
    refine (spec_MeshOk ro A n c l _ (r.to b0)).mono ?_
    rintro e w1 ⟨rfl, b1⟩
    rw [H.out]
    go_wp2
    go_ret
    exact ⟨rfl, b0.trans b1⟩
  | true =>
    rw [show isBal ro l = decide (unbal l < 0) by simp [isBal, hm]]
    have hv := meshOk_lvs hm
    have H := hid hm; clear hm
    go_enter Try.func36, Try.ntmps36
    go_wp2_with fail
    refine (spec_MeshOk ro A n c l _ (r.to b0)).mono ?_
    rintro e w1 ⟨rfl, b1⟩
    rw [H.out]
    replace c0 := pw_cell_below b1.out c0
    replace c1 := pw_cell_below b1.out c1
    go_wp2_with fail
    refine (spec_l05First ro A n c l _ ((r.to b0).to b1) hv).mono ?_
    rintro e w2 ⟨rfl, b2⟩
    go_wp2
    go_ret
    exact ⟨rfl, (b0.trans b1).trans b2⟩
end Go.Proofs.Ytaidbdogolhnjaa.U
set_option linter.unusedVariables false
set_option linter.unusedSimpArgs false
namespace Go.Proofs.Ytaidbdogolhnjaa.U
open Go.RowKit Go.Lib Go.Proofs.YtaidbdogolhnjaaW.PrintWords

/-- The function value g, with what it has captured, answers by p, in w and in whatever world has come of it. -/
structure PredI (g : Nat) (lb : Array Value) (p : Int → Bool) (w : World) : Prop where
  mk :: (out : ∀ W x, Drawn0 w W → Calls Try.prog g (#[.int .i64 x] ++ lb) W fun e W' => e = .returned (.bool (p x)) ∧ Drawn0 W W')
theorem Drawn0.trans' {a b c : World} (h : Drawn0 a b) (k : Drawn0 b c) : Drawn0 a c := by
  obtain ⟨n, rfl⟩ := k
  exact h.step n
theorem any_of_at (l : List Int) (p : Int → Bool) (k : Nat) (hk : k < l.length) (h : p (rd l (k : Int)) = true) : l.any p = true := by
  rw [List.any_eq_true]
  exact ⟨l[k], List.getElem_mem hk, by rw [rd_nat, List.getD_eq_getElem?_getD, List.getElem?_eq_getElem hk] at h; exact h⟩
theorem none_of_all (l : List Int) (p : Int → Bool) (n : Nat) (hn : l.length = n) (h : ∀ j, j < n → p (rd l (j : Int)) = false) : l.any p = false := by
  rw [List.any_eq_false]
  intro x hx
  obtain ⟨j, hj, rfl⟩ := List.getElem_of_mem hx
  have := h j (by omega)
  rw [rd_nat, List.getD_eq_getElem?_getD, List.getElem?_eq_getElem hj] at this
  simpa using this
theorem not_any_not (l : List Int) (p : Int → Bool) : (!(l.any fun x => !p x)) = l.all p := by
  induction l with
  | nil => rfl
  | cons x l ih => simp [List.any_cons, List.all_cons, ← ih]
theorem all_at (l : List Int) (p : Int → Bool) (n : Nat) (hn : l.length = n) (h : ∀ j, j < n → p (rd l (j : Int)) = true) : l.all p = true := by
  rw [List.all_eq_true]
  intro x hx
  obtain ⟨j, hj, rfl⟩ := List.getElem_of_mem hx
  have := h j (by omega)
  rwa [rd_nat, List.getD_eq_getElem?_getD, List.getElem?_eq_getElem hj] at this
theorem not_all_at (l : List Int) (p : Int → Bool) (k : Nat) (hk : k < l.length) (h : p (rd l (k : Int)) = false) : l.all p = false := by
  rw [← Bool.not_eq_true, List.all_eq_true]
  intro hh
  have := hh l[k] (List.getElem_mem hk)
  rw [rd_nat, List.getD_eq_getElem?_getD, List.getElem?_eq_getElem hk] at h
  simp at h
  rw [this] at h
  cases h
set_option maxHeartbeats 1000000 in
theorem IndexFunc (A : Option Addr) (n c : Nat) (l : List Int) (g : Nat) (lb : Array Value) (p : Int → Bool) (w : World) (r : RI w A n l) (hp : PredI g lb p w)
    (eg : ∀ args w, (callFunc g args).run Try.prog w = .ok (.enter g args) w) :
    Calls Try.prog 100 #[.slice A n c, .func (.func g) #[] lb] w fun e w' => (∃ i : Int, e = .returned (.int .i64 i) ∧ decide (0 ≤ i) = l.any p) ∧ Drawn0 w w' := by
  have hm := r.max
  have hl := hid r.len
  go_enter Try.func100, Try.ntmps100
  go_wp2
  go_loopw [8] (fun i wr => ∃ k : Nat, k ≤ n ∧ i = .int .i64 k ∧ Hid (∀ j, j < k → p (rd l (j : Int)) = false) ∧ Hid (Drawn0 w wr)) (fun i _ => n - (intOf i).toNat)
  case atStart => exact ⟨0, by omega, rfl, hid (fun j hj => by omega), hid (Drawn0.refl _)⟩
  case round =>
    obtain ⟨k, hk, rfl, hE, hD⟩ := hrel
    by_cases hlt : k < n
    · obtain ⟨ad, rfl, hc⟩ := (r.dr hD.out).nat k hlt
      go_wp2_with fail
      refine (hp.out _ (rd l (k : Int)) hD.out).mono ?_
      rintro e W' ⟨rfl, d⟩
      cases hpx : p (rd l (k : Int)) with
      | true =>
        have HP := hid hpx; clear hpx
        go_wp2
        go_ret
        refine ⟨⟨_, rfl, ?_⟩, Drawn0.trans' hD.out d⟩
        rw [any_of_at l p k (by rw [hl.out]; exact hlt) HP.out]
        simp
      | false =>
        have HP := hid hpx; clear hpx
        go_wp2
        go_roundw
        case rel => exact ⟨k + 1, by omega, by go_num, hid (fun j hj => by
          by_cases e : j = k
          · rw [e]; exact HP.out
          · exact hE.out j (by omega)), hid (Drawn0.trans' hD.out d)⟩
        case measure => simp [intOf]; omega
    · obtain rfl : k = n := by omega
      go_wp2
      go_ret
      refine ⟨⟨_, rfl, ?_⟩, hD.out⟩
      rw [none_of_all l p k hl.out hE.out]
      rfl
theorem ContainsFunc (A : Option Addr) (n c : Nat) (l : List Int) (g : Nat) (lb : Array Value) (p : Int → Bool) (w : World) (r : RI w A n l) (hp : PredI g lb p w)
    (eg : ∀ args w, (callFunc g args).run Try.prog w = .ok (.enter g args) w) :
    Calls Try.prog 80 #[.slice A n c, .func (.func g) #[] lb] w fun e w' => e = .returned (.bool (l.any p)) ∧ Drawn0 w w' := by
  go_enter Try.func80, Try.ntmps80
  go_wp2_with fail
  refine (IndexFunc A n c l g lb p w r hp eg).mono ?_
  rintro e w' ⟨⟨i, rfl, hi⟩, d⟩
  have HI := hid hi; clear hi
  go_wp2
  go_ret
  exact ⟨ret_bool HI.out, d⟩
end Go.Proofs.Ytaidbdogolhnjaa.U
set_option linter.unusedVariables false
set_option linter.unusedSimpArgs false
namespace Go.Proofs.Ytaidbdogolhnjaa.U
open Go.RowKit Go.Lib Go.Proofs.YtaidbdogolhnjaaW.PrintWords

theorem impl_isBed (x : Int) (w : World) : Calls Try.prog 82 #[.int .i64 x] w fun e w' => e = .returned (.bool (inR x 0 1000000)) ∧ w = w' := by
  go_enter Try.func82, Try.ntmps82
  go_wp2_with fail
  refine (within _ _ _ _).mono ?_
  rintro e w' ⟨rfl, rfl⟩
  go_wp2
  go_ret
  exact ⟨rfl, rfl⟩
theorem bed_pred (w : World) : PredI 81 #[] (fun x => !inR x 0 1000000) w := ⟨fun W x d => by
  go_enter Try.func81, Try.ntmps81
  go_wp2_with fail
  refine (impl_isBed _ _).mono ?_
  rintro e w' ⟨rfl, rfl⟩
  go_wp2
  go_ret
  exact ⟨rfl, Drawn0.refl _⟩⟩
theorem ri_of_C {w : World} {A : Option Addr} {l : List Int} (h : Kd.C (Kd.int .i64) w A l.length l) : RI w A l.length l := ⟨⟨rfl, (id h : ReadsRow _ _ _ _ _ _).2.1, fun hn => by
  obtain ⟨ad, e, hc⟩ := (id h : ReadsRow _ _ _ _ _ _).2.2 hn
  refine ⟨ad, e, fun j hj => ?_⟩
  obtain ⟨c, hl, hk, hcell⟩ := hc j _ (List.getElem?_eq_getElem hj)
  have hk' : c = [.int .i64 l[j]] := hk
  subst hk'
  have := hcell 0 _ rfl
  rw [List.getD_eq_getElem?_getD, List.getElem?_eq_getElem hj]
  simpa [Kd.int, Kd.scalar] using this⟩⟩
theorem beds_Contains (A : Option Addr) (c : Nat) (l : List Int) (r : Bool) (w : World) (h : Kd.C (Kd.int .i64) w A l.length l) (hr : l.any (fun x => !inR x 0 1000000) = r) :
    Calls Try.prog 80 #[.slice A l.length c, .func (.func 81) #[] #[]] w fun e w' => e = .returned (.bool r) ∧ Drawn0 w w' := by
  have eg := enters_of Try.func81 (by kernel_rfl) rfl
  refine (ContainsFunc A _ c l _ _ _ _ (ri_of_C h) (bed_pred _) eg).mono ?_
  rintro e w' ⟨rfl, d⟩
  exact ⟨by rw [hr], d⟩
end Go.Proofs.Ytaidbdogolhnjaa.U
set_option linter.unusedVariables false
set_option linter.unusedSimpArgs false
namespace Go.Proofs.Ytaidbdogolhnjaa.U
open Go.RowKit Go.Lib Go.Proofs.YtaidbdogolhnjaaW.PrintWords

theorem sum_snoc (l : List Int) (k : Nat) (hk : k < l.length) : (l.take (k + 1)).sum = (l.take k).sum + rd l (k : Int) := by
  rw [List.take_succ_eq_append_getElem hk, List.sum_append, rd_nat, List.getD_eq_getElem?_getD, List.getElem?_eq_getElem hk]
  simp
theorem sum_bound (l : List Int) (a b : Int) (h : ∀ x ∈ l, a ≤ x ∧ x ≤ b) : a * l.length ≤ l.sum ∧ l.sum ≤ b * l.length := by
  induction l with
  | nil => simp
  | cons x l ih =>
    have h1 := h x (by simp)
    have h2 := ih (fun y hy => h y (by simp [hy]))
    simp only [List.sum_cons, List.length_cons]
    push_cast
    rw [Int.mul_add, Int.mul_add]
    omega
/-- all sums from the left lie within int -/
structure SumOk (l : List Int) : Prop where mk :: (out : ∀ k, k ≤ l.length → -9223372036854775808 ≤ (l.take k).sum ∧ (l.take k).sum ≤ 9223372036854775807)
theorem sumOk_of (l : List Int) (B : Int) (hB : 0 ≤ B) (h : ∀ x ∈ l, -B ≤ x ∧ x ≤ B) (hl : B * l.length ≤ 9000000000000000000) : SumOk l := ⟨fun k hk => by
  have h1 := sum_bound (l.take k) (-B) B (fun x hx => h x (List.mem_of_mem_take hx))
  have h2 : ((l.take k).length : Int) ≤ l.length := by simp; omega
  have h3 : B * (l.take k).length ≤ B * l.length := Int.mul_le_mul_of_nonneg_left h2 hB
  rw [Int.neg_mul] at h1
  omega⟩
set_option maxHeartbeats 1000000 in
theorem impl_sum (A : Option Addr) (n c : Nat) (l : List Int) (w : World) (r : RI w A n l) (hs : SumOk l) :
    Calls Try.prog 83 #[.slice A n c] w fun e w' => e = .returned (.int .i64 l.sum) ∧ w = w' := by
  have hm := r.max
  have hl := hid r.len
  go_enter Try.func83, Try.ntmps83
  go_wp2
  go_loop [3, 8] (fun s i => ∃ k : Nat, k ≤ n ∧ i = .int .i64 k ∧ s = .int .i64 (l.take k).sum) (fun _ i => n - (intOf i).toNat)
  case atStart => exact ⟨0, by omega, rfl, by simp⟩
  case round =>
    obtain ⟨k, hk, rfl, rfl⟩ := hrel
    by_cases hlt : k < n
    · obtain ⟨ad, rfl, hc⟩ := r.nat k hlt
      have h0 := hs.out k (by rw [hl.out]; omega)
      have h1 := hs.out (k + 1) (by rw [hl.out]; omega)
      rw [sum_snoc l k (by rw [hl.out]; omega)] at h1
      have hS : Hid ((l.take (k + 1)).sum = (l.take k).sum + rd l (k : Int)) := hid (sum_snoc l k (by rw [hl.out]; omega))
      generalize (l.take k).sum = s at *
      obtain ⟨h0a, h0b⟩ := h0
      obtain ⟨h1a, h1b⟩ := h1
      go_wp2
      go_round
      case rel => exact ⟨k + 1, by omega, by go_num, by rw [hS.out]⟩
      case measure => simp [intOf]; omega
    · obtain rfl : k = n := by omega
      go_wp2
      go_ret
      exact ⟨ret_int (by rw [List.take_of_length_le (by rw [hl.out]; exact Nat.le_refl _)]), rfl⟩
set_option maxHeartbeats 1000000 in
theorem l07Sum (A : Option Addr) (n c : Nat) (l : List Int) (w : World) (r : RI w A n l) (hs : SumOk l) :
    Calls Try.prog 38 #[.slice A n c] w fun e w' => e = .returned (.int .i64 l.sum) ∧ w = w' := by
  have hm := r.max
  have hl := hid r.len
  go_enter Try.func38, Try.ntmps38
  go_wp2
  go_loop [3, 4] (fun s i => ∃ k : Nat, k ≤ n ∧ i = .int .i64 k ∧ s = .int .i64 (l.take k).sum) (fun _ i => n - (intOf i).toNat)
  case atStart => exact ⟨0, by omega, rfl, by simp⟩
  case round =>
    obtain ⟨k, hk, rfl, rfl⟩ := hrel
    by_cases hlt : k < n
    · obtain ⟨ad, rfl, hc⟩ := r.nat k hlt
      have h0 := hs.out k (by rw [hl.out]; omega)
      have h1 := hs.out (k + 1) (by rw [hl.out]; omega)
      rw [sum_snoc l k (by rw [hl.out]; omega)] at h1
      have hS : Hid ((l.take (k + 1)).sum = (l.take k).sum + rd l (k : Int)) := hid (sum_snoc l k (by rw [hl.out]; omega))
      generalize (l.take k).sum = s at *
      obtain ⟨h0a, h0b⟩ := h0
      obtain ⟨h1a, h1b⟩ := h1
      go_wp2
      go_round
      case rel => exact ⟨k + 1, by omega, by go_num, by rw [hS.out]⟩
      case measure => simp [intOf]; omega
    · obtain rfl : k = n := by omega
      go_wp2
      go_ret
      exact ⟨ret_int (by rw [List.take_of_length_le (by rw [hl.out]; exact Nat.le_refl _)]), rfl⟩
end Go.Proofs.Ytaidbdogolhnjaa.U
set_option linter.unusedVariables false
set_option linter.unusedSimpArgs false
namespace Go.Proofs.Ytaidbdogolhnjaa.U
open Go.RowKit Go.Lib Go.Proofs.YtaidbdogolhnjaaW.PrintWords

theorem neT {a b : Int} (h : a ≠ b) : (a != b) = true := by simp [h]
theorem neF {a b : Int} (h : a = b) : (a != b) = false := by simp [h]
def cellsOk (ms ts : List Int) : Nat → Nat → Bool
  | 0, _ => true
  | d + 1, j => (inR (rd ms (j : Int)) 0 10000000 && inR (rd ts (j : Int)) 0 (1000 * rd ms (j : Int))) && cellsOk ms ts d (j + 1)
def hasC (ro : Int) (n : Nat) (ms ts bd : List Int) : Bool :=
  decide (ms.length = n) && decide (ts.length = n) && decide ((bd.length : Int) = ro) && bd.all (inR · 0 1000000) && cellsOk ms ts n 0 && decide (ms.sum ≤ 10000000)
def staOk (ro : Int) (lv : List Ce) (ms ts bd : List Int) : Bool := isBal ro lv && hasC ro lv.length ms ts bd
theorem cellsOk_at (ms ts : List Int) : ∀ (d j : Nat), cellsOk ms ts d j = true → ∀ i, j ≤ i → i < j + d → (0 ≤ rd ms (i : Int) ∧ rd ms (i : Int) ≤ 10000000) ∧ (0 ≤ rd ts (i : Int) ∧ rd ts (i : Int) ≤ 1000 * rd ms (i : Int))
  | 0, j, _, i, h1, h2 => by omega
  | d + 1, j, h, i, h1, h2 => by
    simp only [cellsOk, Bool.and_eq_true, inR_iff] at h
    rcases Nat.eq_or_lt_of_le h1 with rfl | h3
    · exact h.1
    · exact cellsOk_at ms ts d (j + 1) h.2 i h3 (by omega)
theorem sum_ok_of_cells {ms ts : List Int} {n : Nat} (hl : ms.length = n) (hn : n ≤ 128) (h : cellsOk ms ts n 0 = true) : SumOk ms := by
  refine sumOk_of ms 10000000 (by omega) (fun x hx => ?_) (by omega)
  obtain ⟨i, hi, rfl⟩ := List.getElem_of_mem hx
  have := (cellsOk_at ms ts n 0 h i (by omega) (by omega)).1
  rw [rd_nat, List.getD_eq_getElem?_getD, List.getElem?_eq_getElem hi] at this
  simp only [Option.getD_some] at this
  omega
theorem meshEnd_len : ∀ (l : List Ce) (a b : Int), meshEnd l a = some b → a + l.length ≤ b
  | [], a, b, h => by simp [meshEnd] at h; simp; omega
  | x :: xs, a, b, h => by
    rw [meshEnd] at h
    split at h
    · rename_i hx
      have h1 := meshEnd_len xs _ _ h
      have h2 := ceOk_facts hx.1
      have h3 : 1 ≤ wid x.l := by
        unfold wid
        have := h2.2.1
        (repeat' split) <;> omega
      have h4 : ceEnd x = a + wid x.l := by rw [ceEnd, hx.2]
      rw [List.length_cons]
      push_cast
      omega
    · cases h
theorem meshOk_len {ro : Int} {l : List Ce} (h : meshOk ro l = true) : l.length ≤ 128 ∧ (1 ≤ ro ∧ ro ≤ 8) ∧ 1 ≤ l.length := by
  unfold meshOk at h
  cases he : meshEnd l 0 with
  | none => rw [he] at h; cases h
  | some a =>
    rw [he, endIs, Bool.and_eq_true, inR_iff, decide_eq_true_iff] at h
    have := meshEnd_len l 0 a he
    refine ⟨by omega, h.1, ?_⟩
    rcases Nat.eq_zero_or_pos l.length with h0 | h0
    · rw [List.length_eq_zero_iff.1 h0] at he
      simp [meshEnd] at he
      omega
    · exact h0
set_option maxHeartbeats 8000000 in
set_option maxRecDepth 100000 in
theorem impl_hasCells (ro : Int) (A0 : Option Addr) (n0 c0 : Nat) (lv : List Ce) (A1 : Option Addr) (n1 c1 : Nat) (ms : List Int) (A2 : Option Addr) (n2 c2 : Nat) (ts : List Int) (A3 : Option Addr) (n3 c3 : Nat) (bd : List Int) (w : World)
    (r0 : IdR w A0 n0 lv) (r1 : RI w A1 n1 ms) (r2 : RI w A2 n2 ts) (r3 : RI w A3 n3 bd) (hn : n0 ≤ 128) :
    Calls Try.prog 55 #[.agg #[.int .i64 ro, .slice A0 n0 c0, .slice A1 n1 c1, .slice A2 n2 c2, .slice A3 n3 c3]] w fun e w' => e = .returned (.bool (hasC ro n0 ms ts bd)) ∧ Bw w w' := by
  have h1 := r1.len
  have h2 := r2.len
  have h3 := r3.len
  have hm1 := r1.max
  have b0 := Bw.box1 w (.cells #[.int .i64 ro, .slice A0 n0 c0, .slice A1 n1 c1, .slice A2 n2 c2, .slice A3 n3 c3] 29)
  have g0 := box_cell (Bw.refl (w.alloc (.cells #[.int .i64 ro, .slice A0 n0 c0, .slice A1 n1 c1, .slice A2 n2 c2, .slice A3 n3 c3] 29))) 0
  have g1 := box_cell (Bw.refl (w.alloc (.cells #[.int .i64 ro, .slice A0 n0 c0, .slice A1 n1 c1, .slice A2 n2 c2, .slice A3 n3 c3] 29))) 1
  have g2 := box_cell (Bw.refl (w.alloc (.cells #[.int .i64 ro, .slice A0 n0 c0, .slice A1 n1 c1, .slice A2 n2 c2, .slice A3 n3 c3] 29))) 2
  have g3 := box_cell (Bw.refl (w.alloc (.cells #[.int .i64 ro, .slice A0 n0 c0, .slice A1 n1 c1, .slice A2 n2 c2, .slice A3 n3 c3] 29))) 3
  have g4 := box_cell (Bw.refl (w.alloc (.cells #[.int .i64 ro, .slice A0 n0 c0, .slice A1 n1 c1, .slice A2 n2 c2, .slice A3 n3 c3] 29))) 4
  simp only [List.getElem?_toArray, List.getElem?_cons_zero, List.getElem?_cons_succ] at g0 g1 g2 g3 g4
  by_cases q1 : n1 = n0
  case neg =>
    rw [show hasC ro n0 ms ts bd = false by simp [hasC, h1, q1]]
    have t1 : ((n1 : Int) != (n0 : Int)) = true := neT (by omega)
    clear q1 h1 h2 h3 hn
    go_enter Try.func55, Try.ntmps55
    go_wp2
    go_ret
    exact ⟨rfl, b0⟩
  by_cases q2 : n2 = n0
  case neg =>
    rw [show hasC ro n0 ms ts bd = false by simp [hasC, h2, q2]]
    have t1 : ((n1 : Int) != (n0 : Int)) = false := neF (by omega)
    have t2 : ((n2 : Int) != (n0 : Int)) = true := neT (by omega)
    clear q1 q2 h1 h2 h3 hn
    go_enter Try.func55, Try.ntmps55
    go_wp2
    go_ret
    exact ⟨rfl, b0⟩
  by_cases q3 : (n3 : Int) = ro
  case neg =>
    rw [show hasC ro n0 ms ts bd = false by simp [hasC, h3, q3]]
    have t1 : ((n1 : Int) != (n0 : Int)) = false := neF (by omega)
    have t2 : ((n2 : Int) != (n0 : Int)) = false := neF (by omega)
    have t3 : ((n3 : Int) != ro) = true := neT q3
    clear q1 q2 q3 h1 h2 h3 hn
    go_enter Try.func55, Try.ntmps55
    go_wp2
    go_ret
    exact ⟨rfl, b0⟩
  have t1 : ((n1 : Int) != (n0 : Int)) = false := neF (by omega)
  have t2 : ((n2 : Int) != (n0 : Int)) = false := neF (by omega)
  have t3 : ((n3 : Int) != ro) = false := neF q3
  have eg := enters_of Try.func81 (by kernel_rfl) rfl
  have HG := hid eg
  clear eg
  cases hb : bd.all (inR · 0 1000000) with
  | false =>
    rw [show hasC ro n0 ms ts bd = false by simp [hasC, hb]]
    have HB : Hid ((bd.any fun x => !inR x 0 1000000) = true) := hid (by rw [← not_any_not] at hb; simpa using hb)
    clear q1 q2 q3 h1 h2 h3 hn hb
    go_enter Try.func55, Try.ntmps55
    go_wp2_with fail
    refine (ContainsFunc A3 _ c3 bd _ _ _ _ (r3.to b0) (bed_pred _) HG.out).mono ?_
    rintro e w1 ⟨rfl, d1⟩
    rw [HB.out]
    go_wp2
    go_ret
    exact ⟨rfl, b0.trans (Bw.drawn d1)⟩
  | true =>
    have HB : Hid ((bd.any fun x => !inR x 0 1000000) = false) := hid (by rw [← not_any_not] at hb; simpa using hb)
    obtain rfl := q1
    obtain rfl := q2
    obtain ⟨R, hR⟩ : ∃ R, cellsOk ms ts n2 0 = R := ⟨_, rfl⟩
    have hval : hasC ro n2 ms ts bd = (R && decide (ms.sum ≤ 10000000)) := by simp [hasC, h1, h2, h3, q3, hb, hR]
    rw [hval]
    have HS : Hid (R = true → SumOk ms) := hid fun h => sum_ok_of_cells h1 hn (hR.trans h)
    have HC := hid (show R = cellsOk ms ts (n2 - 0) 0 from hR.symm)
    clear q3 h1 h2 h3 hb hR hval
    go_enter Try.func55, Try.ntmps55
    go_wp2_with fail
    refine (ContainsFunc A3 _ c3 bd _ _ _ _ (r3.to b0) (bed_pred _) HG.out).mono ?_
    rintro e w1 ⟨rfl, d1⟩
    rw [HB.out]
    have b1 := b0.trans (Bw.drawn d1)
    replace g0 := pw_cell_below (Bw.drawn d1).out g0
    replace g1 := pw_cell_below (Bw.drawn d1).out g1
    replace g2 := pw_cell_below (Bw.drawn d1).out g2
    replace g3 := pw_cell_below (Bw.drawn d1).out g3
    replace g4 := pw_cell_below (Bw.drawn d1).out g4
    clear d1 b0
    go_wp2
    go_loopw [39] (fun v wr => ∃ j : Nat, j ≤ n2 ∧ v = .int .i64 j ∧ Hid (R = cellsOk ms ts (n2 - j) j) ∧ Bw w1 wr) (fun v _ => n2 - (intOf v).toNat)
    case atStart => exact ⟨0, by omega, rfl, HC, Bw.refl _⟩
    case round =>
      obtain ⟨j, hj, rfl, hE, hB⟩ := hrel
      replace g0 := pw_cell_below hB.out g0
      replace g1 := pw_cell_below hB.out g1
      replace g2 := pw_cell_below hB.out g2
      replace g3 := pw_cell_below hB.out g3
      replace g4 := pw_cell_below hB.out g4
      by_cases hlt : j < n2
      · have t1 : decide ((j : Int) < (n2 : Int)) = true := decide_eq_true (by omega)
        have hnext : Hid (R = ((inR (rd ms (j : Int)) 0 10000000 && inR (rd ts (j : Int)) 0 (1000 * rd ms (j : Int))) && cellsOk ms ts (n2 - (j + 1)) (j + 1))) := hid (by rw [hE.out, show n2 - j = (n2 - (j + 1)) + 1 by omega, cellsOk])
        obtain ⟨ad, rfl, x0⟩ := ((r1.to b1).to hB).nat j hlt
        obtain ⟨ae, rfl, y0⟩ := ((r2.to b1).to hB).nat j hlt
        clear HC hE
        generalize rd ms (j : Int) = x at *
        generalize rd ts (j : Int) = y at *
        cases hx : inR x 0 10000000 with
        | false =>
          have hR : Hid (R = false) := hid (by rw [hnext.out, hx]; rfl)
          have HX := hid hx
          clear hx hnext
          go_wp2_with fail
          refine (toBool (within _ _ _ _) HX.out).mono ?_
          rintro e w2 ⟨rfl, rfl⟩
          go_wp2
          go_ret
          exact ⟨ret_bool (by rw [hR.out]; rfl), b1.trans hB⟩
        | true =>
          have hx' := inR_iff.1 hx
          cases hy : inR y 0 (1000 * x) with
          | false =>
            have hR : Hid (R = false) := hid (by rw [hnext.out, hx, hy]; rfl)
            have HX := hid hx
            have HY := hid hy
            clear hx hy hnext
            go_wp2_with fail
            refine (toBool (within _ _ _ _) HX.out).mono ?_
            rintro e w2 ⟨rfl, rfl⟩
            go_wp2_with fail
            refine (toBool (within _ _ _ _) HY.out).mono ?_
            rintro e w2 ⟨rfl, rfl⟩
            go_wp2
            go_ret
            exact ⟨ret_bool (by rw [hR.out]; rfl), b1.trans hB⟩
          | true =>
            have hR : Hid (R = cellsOk ms ts (n2 - (j + 1)) (j + 1)) := hid (by rw [hnext.out, hx, hy]; rfl)
            have HX := hid hx
            have HY := hid hy
            clear hx hy hnext
            go_wp2_with fail
            refine (toBool (within _ _ _ _) HX.out).mono ?_
            rintro e w2 ⟨rfl, rfl⟩
            go_wp2_with fail
            refine (toBool (within _ _ _ _) HY.out).mono ?_
            rintro e w2 ⟨rfl, rfl⟩
            go_wp2
            go_roundw
            case rel => exact ⟨j + 1, by omega, by go_num, hR, hB⟩
            case measure => simp [intOf]; omega
      · obtain rfl : j = n2 := by omega
        have t1 : decide ((j : Int) < (j : Int)) = false := decide_eq_false (by omega)
        have hR : Hid (R = true) := hid (by rw [hE.out, Nat.sub_self]; rfl)
        clear HC hE
        go_wp2_with fail
        refine (impl_sum A1 j c1 ms _ ((r1.to b1).to hB) (HS.out hR.out)).mono ?_
        rintro e w2 ⟨rfl, rfl⟩
        go_wp2
        go_ret
        exact ⟨ret_bool (by rw [hR.out]; rfl), b1.trans hB⟩
set_option maxHeartbeats 2000000 in
theorem impl_StateOk (ro : Int) (A0 : Option Addr) (n0 c0 : Nat) (lv : List Ce) (A1 : Option Addr) (n1 c1 : Nat) (ms : List Int) (A2 : Option Addr) (n2 c2 : Nat) (ts : List Int) (A3 : Option Addr) (n3 c3 : Nat) (bd : List Int) (w : World)
    (r0 : IdR w A0 n0 lv) (r1 : RI w A1 n1 ms) (r2 : RI w A2 n2 ts) (r3 : RI w A3 n3 bd) :
    Calls Try.prog 28 #[.agg #[.int .i64 ro, .slice A0 n0 c0, .slice A1 n1 c1, .slice A2 n2 c2, .slice A3 n3 c3]] w fun e w' => e = .returned (.bool (staOk ro lv ms ts bd)) ∧ Bw w w' := by
  have h0 := r0.len
  have b0 := Bw.box1 w (.cells #[.int .i64 ro, .slice A0 n0 c0, .slice A1 n1 c1, .slice A2 n2 c2, .slice A3 n3 c3] 29)
  have g0 := box_cell (Bw.refl (w.alloc (.cells #[.int .i64 ro, .slice A0 n0 c0, .slice A1 n1 c1, .slice A2 n2 c2, .slice A3 n3 c3] 29))) 0
  have g1 := box_cell (Bw.refl (w.alloc (.cells #[.int .i64 ro, .slice A0 n0 c0, .slice A1 n1 c1, .slice A2 n2 c2, .slice A3 n3 c3] 29))) 1
  have g2 := box_cell (Bw.refl (w.alloc (.cells #[.int .i64 ro, .slice A0 n0 c0, .slice A1 n1 c1, .slice A2 n2 c2, .slice A3 n3 c3] 29))) 2
  have g3 := box_cell (Bw.refl (w.alloc (.cells #[.int .i64 ro, .slice A0 n0 c0, .slice A1 n1 c1, .slice A2 n2 c2, .slice A3 n3 c3] 29))) 3
  have g4 := box_cell (Bw.refl (w.alloc (.cells #[.int .i64 ro, .slice A0 n0 c0, .slice A1 n1 c1, .slice A2 n2 c2, .slice A3 n3 c3] 29))) 4
  simp only [List.getElem?_toArray, List.getElem?_cons_zero, List.getElem?_cons_succ] at g0 g1 g2 g3 g4
  cases hk : isBal ro lv with
  | false =>
    rw [show staOk ro lv ms ts bd = false by simp [staOk, hk]]
    have H := hid hk; clear hk h0
    go_enter Try.func28, Try.ntmps28
    go_wp2_with fail
    refine (impl_IsBalanced ro A0 n0 c0 lv _ (r0.to b0)).mono ?_
    rintro e w1 ⟨rfl, b1⟩
    rw [H.out]
    go_wp2
    go_ret
    exact ⟨rfl, b0.trans b1⟩
  | true =>
    rw [show staOk ro lv ms ts bd = hasC ro n0 ms ts bd by simp [staOk, hk, h0]]
    have hn := (meshOk_len (by have := hk; simp only [isBal, Bool.and_eq_true] at this; exact this.1 : meshOk ro lv = true)).1
    rw [h0] at hn
    have H := hid hk; clear hk h0
    go_enter Try.func28, Try.ntmps28
    go_wp2_with fail
    refine (impl_IsBalanced ro A0 n0 c0 lv _ (r0.to b0)).mono ?_
    rintro e w1 ⟨rfl, b1⟩
    rw [H.out]
    replace g0 := pw_cell_below b1.out g0
    replace g1 := pw_cell_below b1.out g1
    replace g2 := pw_cell_below b1.out g2
    replace g3 := pw_cell_below b1.out g3
    replace g4 := pw_cell_below b1.out g4
    replace b0 := b0.trans b1
    clear b1
    go_wp2_with fail
    refine (impl_hasCells ro A0 n0 c0 lv A1 n1 c1 ms A2 n2 c2 ts A3 n3 c3 bd _ (r0.to b0) (r1.to b0) (r2.to b0) (r3.to b0) hn).mono ?_
    rintro e w2 ⟨rfl, b2⟩
    go_wp2
    go_ret
    exact ⟨rfl, b0.trans b2⟩
end Go.Proofs.Ytaidbdogolhnjaa.U
set_option linter.unusedVariables false
set_option linter.unusedSimpArgs false
namespace Go.Proofs.Ytaidbdogolhnjaa.U
open Go.RowKit Go.Lib Go.Proofs.YtaidbdogolhnjaaW.PrintWords

theorem bedsOk_step (bd : List Int) (n j : Nat) (hl : bd.length = n) (hj : j < n) : (bd.drop j).all (inR · 0 1000000) = (inR (rd bd (j : Int)) 0 1000000 && (bd.drop (j + 1)).all (inR · 0 1000000)) := by
  rw [List.drop_eq_getElem_cons (by omega), List.all_cons, rd_nat, List.getD_eq_getElem?_getD, List.getElem?_eq_getElem (by omega)]
  rfl
set_option maxHeartbeats 8000000 in
set_option maxRecDepth 100000 in
theorem spec_StateOk (ro : Int) (A0 : Option Addr) (n0 c0 : Nat) (lv : List Ce) (A1 : Option Addr) (n1 c1 : Nat) (ms : List Int) (A2 : Option Addr) (n2 c2 : Nat) (ts : List Int) (A3 : Option Addr) (n3 c3 : Nat) (bd : List Int) (w : World)
    (r0 : IdR w A0 n0 lv) (r1 : RI w A1 n1 ms) (r2 : RI w A2 n2 ts) (r3 : RI w A3 n3 bd) :
    Calls Try.prog 13 #[.agg #[.int .i64 ro, .slice A0 n0 c0, .slice A1 n1 c1, .slice A2 n2 c2, .slice A3 n3 c3]] w fun e w' => e = .returned (.bool (staOk ro lv ms ts bd)) ∧ Bw w w' := by
  have h0 := r0.len
  have h1 := r1.len
  have h2 := r2.len
  have h3 := r3.len
  have hm1 := r1.max
  have hm3 := r3.max
  have b0 := Bw.box1 w (.cells #[.int .i64 ro, .slice A0 n0 c0, .slice A1 n1 c1, .slice A2 n2 c2, .slice A3 n3 c3] 29)
  have g0 := box_cell (Bw.refl (w.alloc (.cells #[.int .i64 ro, .slice A0 n0 c0, .slice A1 n1 c1, .slice A2 n2 c2, .slice A3 n3 c3] 29))) 0
  have g1 := box_cell (Bw.refl (w.alloc (.cells #[.int .i64 ro, .slice A0 n0 c0, .slice A1 n1 c1, .slice A2 n2 c2, .slice A3 n3 c3] 29))) 1
  have g2 := box_cell (Bw.refl (w.alloc (.cells #[.int .i64 ro, .slice A0 n0 c0, .slice A1 n1 c1, .slice A2 n2 c2, .slice A3 n3 c3] 29))) 2
  have g3 := box_cell (Bw.refl (w.alloc (.cells #[.int .i64 ro, .slice A0 n0 c0, .slice A1 n1 c1, .slice A2 n2 c2, .slice A3 n3 c3] 29))) 3
  have g4 := box_cell (Bw.refl (w.alloc (.cells #[.int .i64 ro, .slice A0 n0 c0, .slice A1 n1 c1, .slice A2 n2 c2, .slice A3 n3 c3] 29))) 4
  simp only [List.getElem?_toArray, List.getElem?_cons_zero, List.getElem?_cons_succ] at g0 g1 g2 g3 g4
  cases hk : isBal ro lv with
  | false =>
    rw [show staOk ro lv ms ts bd = false by simp [staOk, hk]]
    have H := hid hk; clear hk h0 h1 h2 h3
    go_enter Try.func13, Try.ntmps13
    go_wp2_with fail
    refine (spec_IsBalanced ro A0 n0 c0 lv _ (r0.to b0)).mono ?_
    rintro e w1 ⟨rfl, b1⟩
    rw [H.out]
    go_wp2
    go_ret
    exact ⟨rfl, b0.trans b1⟩
  | true =>
    have hn := (meshOk_len (by have := hk; simp only [isBal, Bool.and_eq_true] at this; exact this.1 : meshOk ro lv = true)).1
    rw [show staOk ro lv ms ts bd = hasC ro n0 ms ts bd by simp [staOk, hk, h0]]
    rw [h0] at hn
    have H := hid hk; clear hk h0
    by_cases q1 : n1 = n0
    case neg =>
      rw [show hasC ro n0 ms ts bd = false by simp [hasC, h1, q1]]
      have t1 : ((n1 : Int) != (n0 : Int)) = true := neT (by omega)
      clear q1 h1 h2 h3 hn
      go_enter Try.func13, Try.ntmps13
      go_wp2_with fail
      refine (spec_IsBalanced ro A0 n0 c0 lv _ (r0.to b0)).mono ?_
      rintro e w1 ⟨rfl, b1⟩
      rw [H.out]
      replace g0 := pw_cell_below b1.out g0
      replace g1 := pw_cell_below b1.out g1
      replace g2 := pw_cell_below b1.out g2
      replace g3 := pw_cell_below b1.out g3
      replace g4 := pw_cell_below b1.out g4
      go_wp2
      go_ret
      exact ⟨rfl, b0.trans b1⟩
    obtain rfl := q1
    by_cases q2 : n2 = n1
    case neg =>
      rw [show hasC ro n1 ms ts bd = false by simp [hasC, h2, q2]]
      have t1 : ((n1 : Int) != (n1 : Int)) = false := neF rfl
      have t2 : ((n2 : Int) != (n1 : Int)) = true := neT (by omega)
      clear q2 h1 h2 h3 hn
      go_enter Try.func13, Try.ntmps13
      go_wp2_with fail
      refine (spec_IsBalanced ro A0 n1 c0 lv _ (r0.to b0)).mono ?_
      rintro e w1 ⟨rfl, b1⟩
      rw [H.out]
      replace g0 := pw_cell_below b1.out g0
      replace g1 := pw_cell_below b1.out g1
      replace g2 := pw_cell_below b1.out g2
      replace g3 := pw_cell_below b1.out g3
      replace g4 := pw_cell_below b1.out g4
      go_wp2
      go_ret
      exact ⟨rfl, b0.trans b1⟩
    obtain rfl := q2
    by_cases q3 : (n3 : Int) = ro
    case neg =>
      rw [show hasC ro n2 ms ts bd = false by simp [hasC, h3, q3]]
      have t1 : ((n2 : Int) != (n2 : Int)) = false := neF rfl
      have t3 : ((n3 : Int) != ro) = true := neT q3
      clear q3 h1 h2 h3 hn
      go_enter Try.func13, Try.ntmps13
      go_wp2_with fail
      refine (spec_IsBalanced ro A0 n2 c0 lv _ (r0.to b0)).mono ?_
      rintro e w1 ⟨rfl, b1⟩
      rw [H.out]
      replace g0 := pw_cell_below b1.out g0
      replace g1 := pw_cell_below b1.out g1
      replace g2 := pw_cell_below b1.out g2
      replace g3 := pw_cell_below b1.out g3
      replace g4 := pw_cell_below b1.out g4
      go_wp2
      go_ret
      exact ⟨rfl, b0.trans b1⟩
    have t1 : ((n2 : Int) != (n2 : Int)) = false := neF rfl
    have t3 : ((n3 : Int) != ro) = false := neF q3
    obtain ⟨R, hR⟩ : ∃ R, cellsOk ms ts n2 0 = R := ⟨_, rfl⟩
    obtain ⟨S, hS⟩ : ∃ S, bd.all (inR · 0 1000000) = S := ⟨_, rfl⟩
    have hval : hasC ro n2 ms ts bd = (S && R && decide (ms.sum ≤ 10000000)) := by simp [hasC, h1, h2, h3, q3, hR, hS]
    rw [hval]
    have HSU : Hid (R = true → SumOk ms) := hid fun h => sum_ok_of_cells h1 hn (hR.trans h)
    have HC := hid (show R = cellsOk ms ts (n2 - 0) 0 from hR.symm)
    have HS := hid (show S = (bd.drop 0).all (inR · 0 1000000) from hS.symm)
    have HL3 := hid h3
    clear q3 h1 h2 h3 hS hR hval
    go_enter Try.func13, Try.ntmps13
    go_wp2_with fail
    refine (spec_IsBalanced ro A0 n2 c0 lv _ (r0.to b0)).mono ?_
    rintro e w1 ⟨rfl, b1⟩
    rw [H.out]
    replace g0 := pw_cell_below b1.out g0
    replace g1 := pw_cell_below b1.out g1
    replace g2 := pw_cell_below b1.out g2
    replace g3 := pw_cell_below b1.out g3
    replace g4 := pw_cell_below b1.out g4
    replace b0 := b0.trans b1
    clear b1
    go_wp2
    go_loopw [3] (fun v wr => ∃ j : Nat, j ≤ n2 ∧ v = .int .i64 j ∧ Hid (R = cellsOk ms ts (n2 - j) j) ∧ Bw w1 wr) (fun v _ => n2 - (intOf v).toNat)
    case atStart => exact ⟨0, by omega, rfl, HC, Bw.refl _⟩
    case round =>
      obtain ⟨j, hj, rfl, hE, hB⟩ := hrel
      replace g0 := pw_cell_below hB.out g0
      replace g1 := pw_cell_below hB.out g1
      replace g2 := pw_cell_below hB.out g2
      replace g3 := pw_cell_below hB.out g3
      replace g4 := pw_cell_below hB.out g4
      by_cases hlt : j < n2
      · have t4 : decide ((j : Int) < (n2 : Int)) = true := decide_eq_true (by omega)
        have hnext : Hid (R = ((inR (rd ms (j : Int)) 0 10000000 && inR (rd ts (j : Int)) 0 (1000 * rd ms (j : Int))) && cellsOk ms ts (n2 - (j + 1)) (j + 1))) := hid (by rw [hE.out, show n2 - j = (n2 - (j + 1)) + 1 by omega, cellsOk])
        obtain ⟨ad, rfl, x0⟩ := ((r1.to b0).to hB).nat j hlt
        obtain ⟨ae, rfl, y0⟩ := ((r2.to b0).to hB).nat j hlt
        clear HC hE
        generalize rd ms (j : Int) = x at *
        generalize rd ts (j : Int) = y at *
        have i0 : (0 : Int) ≤ (j : Int) := by omega
        have i1 : (j : Int) < (n2 : Int) := by omega
        cases hx : inR x 0 10000000 with
        | false =>
          have hR : Hid (R = false) := hid (by rw [hnext.out, hx]; rfl)
          clear hnext
          go_wp2
          go_quiet ((go_at_call 37; exact quietV (l01In _ _ _ _)))
          go_wp2
          go_ret
          exact ⟨ret_bool (by rw [hR.out, Bool.and_false]; rfl), (b0.trans hB).trans (Bw.drawn ⟨⟨_, rfl⟩⟩)⟩
        | true =>
          have hx' := inR_iff.1 hx
          have e1 : IntKind.i64.wrap (1000 * x) = 1000 * x := i64w (by omega) (by omega)
          cases hy : inR y 0 (1000 * x) with
          | false =>
            have hR : Hid (R = false) := hid (by rw [hnext.out, hx, hy]; rfl)
            clear hnext
            go_wp2
            go_quiet ((go_at_call 37; exact quietV (l01In _ _ _ _)))
            go_wp2
            go_ret
            exact ⟨ret_bool (by rw [hR.out, Bool.and_false]; rfl), (b0.trans hB).trans (Bw.drawn ⟨⟨_, rfl⟩⟩)⟩
          | true =>
            have hR : Hid (R = cellsOk ms ts (n2 - (j + 1)) (j + 1)) := hid (by rw [hnext.out, hx, hy]; rfl)
            clear hnext
            go_wp2
            go_quiet ((go_at_call 37; exact quietV (l01In _ _ _ _)))
            go_wp2
            go_roundw
            case rel => exact ⟨j + 1, by omega, by go_num, hR, hB.trans (Bw.drawn ⟨⟨_, rfl⟩⟩)⟩
            case measure => simp [intOf]; omega
      · obtain rfl : j = n2 := by omega
        have t4 : decide ((j : Int) < (j : Int)) = false := decide_eq_false (by omega)
        have hR : Hid (R = true) := hid (by rw [hE.out, Nat.sub_self]; rfl)
        replace b0 := b0.trans hB
        clear HC hE hB hlt hj t4
        go_wp2
        go_loopw [4] (fun v wr' => ∃ i : Nat, i ≤ n3 ∧ v = .int .i64 i ∧ Hid (S = (bd.drop i).all (inR · 0 1000000)) ∧ Bw wr wr') (fun v _ => n3 - (intOf v).toNat)
        case atStart => exact ⟨0, by omega, rfl, HS, Bw.refl _⟩
        case round =>
          obtain ⟨i, hi, rfl, hE, hB⟩ := hrel
          replace g0 := pw_cell_below hB.out g0
          replace g1 := pw_cell_below hB.out g1
          replace g2 := pw_cell_below hB.out g2
          replace g3 := pw_cell_below hB.out g3
          replace g4 := pw_cell_below hB.out g4
          by_cases hlt : i < n3
          · have t4 : decide ((i : Int) < (n3 : Int)) = true := decide_eq_true (by omega)
            have hnext := hid (hE.out.trans (bedsOk_step bd n3 i HL3.out hlt))
            obtain ⟨ad, rfl, x0⟩ := ((r3.to b0).to hB).nat i hlt
            clear HS hE
            generalize rd bd (i : Int) = x at *
            cases hx : inR x 0 1000000 with
            | false =>
              have hS : Hid (S = false) := hid (by rw [hnext.out, hx]; rfl)
              have HX := hid hx
              clear hnext hx
              go_wp2_with fail
              refine (toBool (l01In _ _ _ _) HX.out).mono ?_
              rintro e w2 ⟨rfl, rfl⟩
              go_wp2
              go_ret
              exact ⟨ret_bool (by rw [hS.out]; rfl), b0.trans hB⟩
            | true =>
              have hS : Hid (S = (bd.drop (i + 1)).all (inR · 0 1000000)) := hid (by rw [hnext.out, hx]; rfl)
              have HX := hid hx
              clear hnext hx
              go_wp2_with fail
              refine (toBool (l01In _ _ _ _) HX.out).mono ?_
              rintro e w2 ⟨rfl, rfl⟩
              go_wp2
              go_roundw
              case rel => exact ⟨i + 1, by omega, by go_num, hS, hB⟩
              case measure => simp [intOf]; omega
          · obtain rfl : i = n3 := by omega
            have t4 : decide ((i : Int) < (i : Int)) = false := decide_eq_false (by omega)
            have hS : Hid (S = true) := hid (by rw [hE.out, List.drop_of_length_le (by rw [HL3.out]; exact Nat.le_refl _)]; rfl)
            clear HS hE
            go_wp2_with fail
            refine (l07Sum A1 j c1 ms _ ((r1.to b0).to hB) (HSU.out hR.out)).mono ?_
            rintro e w2 ⟨rfl, rfl⟩
            go_wp2
            go_ret
            exact ⟨ret_bool (by rw [hR.out, hS.out]; rfl), b0.trans hB⟩
end Go.Proofs.Ytaidbdogolhnjaa.U
