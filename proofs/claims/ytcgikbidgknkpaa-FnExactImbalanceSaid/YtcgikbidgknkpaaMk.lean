
/- Meshes: validity and balance, by the program and by the reference. -/
import Derived.Test.YtcgikbidgknkpaaIk
set_option linter.unusedVariables false
set_option linter.unusedSimpArgs false
namespace Go.Proofs.Ytcgikbidgknkpaa.U
open Go.RowKit Go.Lib Go.Proofs.YtcgikbidgknkpaaW.PrintWords

/-- a slice of cells that is read -/
structure IdR (w : World) (A : Option Addr) (n : Nat) (l : List Ce) : Prop where mk :: (out : ReadsRow (fun (p : Ce) c => c = [.int .i64 p.r, .int .i64 p.l, .int .i64 p.i]) 3 w A n l)
def cz : Ce := ⟨0, 0, 0⟩
def gc (l : List Ce) (j : Nat) : Ce := l.getD j cz
theorem gc_at {l : List Ce} {j : Nat} (h : j < l.length) : gc l j = l[j] := by rw [gc, List.getD_eq_getElem?_getD, List.getElem?_eq_getElem h]; rfl
theorem IdR.len {w : World} {A : Option Addr} {n : Nat} {l : List Ce} (h : IdR w A n l) : l.length = n := h.out.1
theorem IdR.max {w : World} {A : Option Addr} {n : Nat} {l : List Ce} (h : IdR w A n l) : n ≤ 9223372036854775807 := h.out.2.1
theorem IdR.to {w w' : World} {A : Option Addr} {n : Nat} {l : List Ce} (h : IdR w A n l) (b : Bw w w') : IdR w' A n l := ⟨h.out.imp_ b.out fun _ _ k => k⟩
theorem IdR.at {w : World} {A : Option Addr} {n : Nat} {l : List Ce} (h : IdR w A n l) (j : Nat) (hj : j < n) :
    ∃ ad, A = some ad ∧ w.cell? (ad.add (j * 3)) = some (.int .i64 (gc l j).r) ∧ w.cell? ⟨(ad.add (j * 3)).block, (ad.add (j * 3)).off + 1, none⟩ = some (.int .i64 (gc l j).l) ∧ w.cell? ⟨(ad.add (j * 3)).block, (ad.add (j * 3)).off + 2, none⟩ = some (.int .i64 (gc l j).i) := by
  obtain ⟨ad, c, e, _, rfl, hc⟩ := h.out.get_ cz (j : Int) (by omega) (by omega)
  rw [Int.toNat_natCast] at hc
  exact ⟨ad, e, by have := hc 0 _ rfl; rwa [Nat.add_zero] at this, by have := hc 1 _ rfl; rwa [add_field _ _ _ (by omega)] at this, by have := hc 2 _ rfl; rwa [add_field _ _ _ (by omega)] at this⟩
def meshEnd : List Ce → Int → Option Int
  | [], a => some a
  | x :: xs, a => if ceOk x = true ∧ ceAt x = a then meshEnd xs (ceEnd x) else none
def endIs (ro : Int) : Option Int → Bool
  | none => false
  | some a => inR ro 1 8 && decide (a = ro * 16)
theorem endIs_some {ro a : Int} (h : inR ro 1 8 = true) : endIs ro (some a) = (a == ro * 16) := by rw [endIs, h, Bool.true_and]; rfl
def meshOk (ro : Int) (l : List Ce) : Bool := endIs ro (meshEnd l 0)
theorem meshEnd_drop {l : List Ce} {j : Nat} (h : j < l.length) (a : Int) : meshEnd (l.drop j) a = if ceOk (gc l j) = true ∧ ceAt (gc l j) = a then meshEnd (l.drop (j + 1)) (ceEnd (gc l j)) else none := by
  rw [List.drop_eq_getElem_cons h, meshEnd, gc_at h]
set_option maxHeartbeats 4000000 in
set_option maxRecDepth 100000 in
theorem impl_MeshOk (ro : Int) (A : Option Addr) (n c : Nat) (l : List Ce) (w : World) (r : IdR w A n l) : Calls Try.prog 84 #[.agg #[.int .i64 ro, .slice A n c]] w fun e w' => e = .returned (.bool (meshOk ro l)) ∧ Bw w w' := by
  have hmax := r.max
  have HL := hid r.len
  have b0 := Bw.box1 w (.cells #[.int .i64 ro, .slice A n c] 26)
  have c0 := box_cell (Bw.refl (w.alloc (.cells #[.int .i64 ro, .slice A n c] 26))) 0
  have c1 := box_cell (Bw.refl (w.alloc (.cells #[.int .i64 ro, .slice A n c] 26))) 1
  simp only [List.getElem?_toArray, List.getElem?_cons_zero, List.getElem?_cons_succ] at c0 c1
  obtain ⟨R, HR⟩ : ∃ R, Hid (R = meshEnd l 0) := ⟨_, hid rfl⟩
  rw [meshOk, ← HR.out]
  go_enter Try.func84, Try.ntmps84
  go_wp2
  generalize (w.alloc (.cells #[.int .i64 ro, .slice A n c] 26)) = w0 at *
  go_loopw [3, 9] (fun v3 v9 wr => ∃ (j : Nat) (a : Int), j ≤ n ∧ v3 = .int .i64 a ∧ v9 = .int .i64 j ∧ Hid (R = meshEnd (l.drop j) a) ∧ Bw w0 wr) (fun _ v9 _ => n - (intOf v9).toNat)
  case atStart => exact ⟨0, 0, by omega, rfl, rfl, HR, Bw.refl _⟩
  case round =>
    obtain ⟨j, a, hj, rfl, rfl, hE, hB⟩ := hrel
    replace c0 := pw_cell_below hB.out c0
    replace c1 := pw_cell_below hB.out c1
    by_cases hlt : j < n
    · have t1 : decide ((j : Int) < (n : Int)) = true := decide_eq_true (by omega)
      have hnext := hid (meshEnd_drop (l := l) (by rw [HL.out]; exact hlt) a)
      obtain ⟨ad, rfl, x0, x1, x2⟩ := ((r.to b0).to hB).at j hlt
      generalize gc l j = x at *
      obtain ⟨xr, xl, xi⟩ := x
      simp only at x0 x1 x2
      cases hk : ceOk ⟨xr, xl, xi⟩ with
      | false =>
        have hR : Hid (R = none) := hid (by rw [hE.out, hnext.out, if_neg (by rw [hk]; simp)])
        have HK := hid hk
        clear hk hnext hE HR
        go_wp2_with fail
        refine (impl_IdOk _ _ _ _).mono ?_
        rintro e w1 ⟨rfl, b1⟩
        rw [HK.out]
        go_wp2
        go_ret
        exact ⟨by rw [hR.out]; rfl, (b0.trans hB).trans ((Bw.box1 _ _).trans b1)⟩
      | true =>
        have HK := hid hk
        clear hk
        go_wp2_with fail
        refine (impl_IdOk _ _ _ _).mono ?_
        rintro e w1 ⟨rfl, b1⟩
        rw [HK.out]
        have y0 := box_cell b1 0
        have y1 := box_cell b1 1
        have y2 := box_cell b1 2
        simp only [List.getElem?_toArray, List.getElem?_cons_zero, List.getElem?_cons_succ] at y0 y1 y2
        replace b1 := (Bw.box1 _ _).trans b1
        go_wp2_with fail
        refine (impl_StartOf _ _ _ _).mono ?_
        rintro e w2 ⟨rfl, b2⟩
        replace y0 := pw_cell_below b2.out y0
        replace y1 := pw_cell_below b2.out y1
        replace y2 := pw_cell_below b2.out y2
        replace b1 := b1.trans b2
        clear b2
        by_cases ha : ceAt ⟨xr, xl, xi⟩ = a
        · have hR : Hid (R = meshEnd (l.drop (j + 1)) (ceEnd ⟨xr, xl, xi⟩)) := hid (by rw [hE.out, hnext.out, if_pos ⟨HK.out, ha⟩])
          have t2 : (ceAt ⟨xr, xl, xi⟩ != a) = false := by simp [ha]
          clear ha hnext hE HR
          go_wp2_with fail
          refine (impl_endOf _ _ _ _).mono ?_
          rintro e w3 ⟨rfl, b3⟩
          go_wp2
          go_roundw
          case rel => exact ⟨j + 1, _, by omega, rfl, by go_num, hR, hB.trans (b1.trans b3)⟩
          case measure => simp [intOf]; omega
        · have hR : Hid (R = none) := hid (by rw [hE.out, hnext.out, if_neg (fun h => ha h.2)])
          have t2 : (ceAt ⟨xr, xl, xi⟩ != a) = true := by simp [ha]
          clear ha hnext hE HR
          go_wp2
          go_ret
          exact ⟨by rw [hR.out]; rfl, (b0.trans hB).trans b1⟩
    · obtain rfl : j = n := by omega
      have t1 : decide ((j : Int) < (j : Int)) = false := decide_eq_false (by omega)
      have hR : Hid (R = some a) := hid (by rw [hE.out, List.drop_of_length_le (by rw [HL.out]; exact Nat.le_refl _)]; rfl)
      clear hE HR
      cases hk : inR ro 1 8 with
      | false =>
        have HK := hid hk
        clear hk
        go_wp2_with fail
        refine (toBool (within _ _ _ _) HK.out).mono ?_
        rintro e w1 ⟨rfl, rfl⟩
        go_wp2
        go_ret
        exact ⟨by rw [hR.out, endIs, HK.out]; rfl, b0.trans hB⟩
      | true =>
        have hro := inR_iff.1 hk
        have HK := hid hk
        clear hk
        go_wp2_with fail
        refine (toBool (within _ _ _ _) HK.out).mono ?_
        rintro e w1 ⟨rfl, rfl⟩
        go_wp2
        go_ret
        exact ⟨ret_bool (by rw [hR.out]; exact (endIs_some HK.out).symm), b0.trans hB⟩
set_option maxHeartbeats 4000000 in
set_option maxRecDepth 100000 in
theorem spec_MeshOk (ro : Int) (A : Option Addr) (n c : Nat) (l : List Ce) (w : World) (r : IdR w A n l) : Calls Try.prog 77 #[.agg #[.int .i64 ro, .slice A n c]] w fun e w' => e = .returned (.bool (meshOk ro l)) ∧ Bw w w' := by
  have hmax := r.max
  have HL := hid r.len
  have b0 := Bw.box1 w (.cells #[.int .i64 ro, .slice A n c] 26)
  have c0 := box_cell (Bw.refl (w.alloc (.cells #[.int .i64 ro, .slice A n c] 26))) 0
  have c1 := box_cell (Bw.refl (w.alloc (.cells #[.int .i64 ro, .slice A n c] 26))) 1
  simp only [List.getElem?_toArray, List.getElem?_cons_zero, List.getElem?_cons_succ] at c0 c1
  obtain ⟨R, HR⟩ : ∃ R, Hid (R = meshEnd l 0) := ⟨_, hid rfl⟩
  rw [meshOk, ← HR.out]
  go_enter Try.func77, Try.ntmps77
  go_wp2
  generalize (w.alloc (.cells #[.int .i64 ro, .slice A n c] 26)) = w0 at *
  go_loopw [3, 4] (fun v3 v9 wr => ∃ (j : Nat) (a : Int), j ≤ n ∧ v3 = .int .i64 a ∧ v9 = .int .i64 j ∧ Hid (R = meshEnd (l.drop j) a) ∧ Bw w0 wr) (fun _ v9 _ => n - (intOf v9).toNat)
  case atStart => exact ⟨0, 0, by omega, rfl, rfl, HR, Bw.refl _⟩
  case round =>
    obtain ⟨j, a, hj, rfl, rfl, hE, hB⟩ := hrel
    replace c0 := pw_cell_below hB.out c0
    replace c1 := pw_cell_below hB.out c1
    by_cases hlt : j < n
    · have t1 : decide ((j : Int) < (n : Int)) = true := decide_eq_true (by omega)
      have hnext := hid (meshEnd_drop (l := l) (by rw [HL.out]; exact hlt) a)
      obtain ⟨ad, rfl, x0, x1, x2⟩ := ((r.to b0).to hB).at j hlt
      generalize gc l j = x at *
      obtain ⟨xr, xl, xi⟩ := x
      simp only at x0 x1 x2
      cases hk : ceOk ⟨xr, xl, xi⟩ with
      | false =>
        have hR : Hid (R = none) := hid (by rw [hE.out, hnext.out, if_neg (by rw [hk]; simp)])
        have HK := hid hk
        clear hk hnext hE HR
        go_wp2_with fail
        refine (spec_IdOk _ _ _ _).mono ?_
        rintro e w1 ⟨rfl, b1⟩
        rw [HK.out]
        go_wp2
        go_ret
        exact ⟨by rw [hR.out]; rfl, (b0.trans hB).trans b1⟩
      | true =>
        have HK := hid hk
        clear hk
        go_wp2_with fail
        refine (spec_IdOk _ _ _ _).mono ?_
        rintro e w1 ⟨rfl, b1⟩
        rw [HK.out]
        replace c0 := pw_cell_below b1.out c0
        replace c1 := pw_cell_below b1.out c1
        replace x0 := pw_cell_below b1.out x0
        replace x1 := pw_cell_below b1.out x1
        replace x2 := pw_cell_below b1.out x2
        go_wp2_with fail
        refine (spec_StartOf _ _ _ _).mono ?_
        rintro e w2 ⟨rfl, b2⟩
        replace c0 := pw_cell_below b2.out c0
        replace c1 := pw_cell_below b2.out c1
        replace x0 := pw_cell_below b2.out x0
        replace x1 := pw_cell_below b2.out x1
        replace x2 := pw_cell_below b2.out x2
        replace b1 := b1.trans b2
        clear b2
        by_cases ha : ceAt ⟨xr, xl, xi⟩ = a
        · have hR : Hid (R = meshEnd (l.drop (j + 1)) (ceEnd ⟨xr, xl, xi⟩)) := hid (by rw [hE.out, hnext.out, if_pos ⟨HK.out, ha⟩])
          have t2 : (ceAt ⟨xr, xl, xi⟩ != a) = false := by simp [ha]
          clear ha hnext hE HR
          go_wp2_with fail
          refine (spec_l04End _ _ _ _).mono ?_
          rintro e w3 ⟨rfl, b3⟩
          go_wp2
          go_roundw
          case rel => exact ⟨j + 1, _, by omega, rfl, by go_num, hR, hB.trans (b1.trans b3)⟩
          case measure => simp [intOf]; omega
        · have hR : Hid (R = none) := hid (by rw [hE.out, hnext.out, if_neg (fun h => ha h.2)])
          have t2 : (ceAt ⟨xr, xl, xi⟩ != a) = true := by simp [ha]
          clear ha hnext hE HR
          go_wp2
          go_ret
          exact ⟨by rw [hR.out]; rfl, (b0.trans hB).trans b1⟩
    · obtain rfl : j = n := by omega
      have t1 : decide ((j : Int) < (j : Int)) = false := decide_eq_false (by omega)
      have hR : Hid (R = some a) := hid (by rw [hE.out, List.drop_of_length_le (by rw [HL.out]; exact Nat.le_refl _)]; rfl)
      clear hE HR
      cases hk : inR ro 1 8 with
      | false =>
        have HK := hid hk
        clear hk
        go_wp2_with fail
        refine (toBool (l01In _ _ _ _) HK.out).mono ?_
        rintro e w1 ⟨rfl, rfl⟩
        go_wp2
        go_ret
        exact ⟨by rw [hR.out, endIs, HK.out]; rfl, b0.trans hB⟩
      | true =>
        have hro := inR_iff.1 hk
        have HK := hid hk
        clear hk
        go_wp2_with fail
        refine (toBool (l01In _ _ _ _) HK.out).mono ?_
        rintro e w1 ⟨rfl, rfl⟩
        go_wp2
        go_ret
        exact ⟨ret_bool (by rw [hR.out]; exact (endIs_some HK.out).symm), b0.trans hB⟩
/-- the first leaf from j on whose right neighbour differs by more than a level, -1 if there is none (d: leaves left) -/
def firstUn (l : List Ce) : Nat → Nat → Int
  | 0, _ => -1
  | d + 1, j => if j + 1 < l.length then (if (gc l j).l - (gc l (j + 1)).l > 1 ∨ (gc l j).l - (gc l (j + 1)).l < -1 then (j : Int) else firstUn l d (j + 1)) else -1
def unbal (l : List Ce) : Int := firstUn l l.length 0
def isBal (ro : Int) (l : List Ce) : Bool := meshOk ro l && decide (unbal l < 0)
/-- every leaf's level is one -/
structure Lvs (l : List Ce) : Prop where mk :: (out : ∀ j, j < l.length → 0 ≤ (gc l j).l ∧ (gc l j).l ≤ 4)
theorem meshEnd_lvs : ∀ (l : List Ce) (a b : Int), meshEnd l a = some b → ∀ x ∈ l, ceOk x = true
  | [], _, _, _, x, hx => by simp at hx
  | y :: ys, a, b, h, x, hx => by
    rw [meshEnd] at h
    split at h
    · rename_i hy
      rcases List.mem_cons.1 hx with rfl | hx
      · exact hy.1
      · exact meshEnd_lvs ys _ _ h x hx
    · cases h
theorem meshOk_all {ro : Int} {l : List Ce} (h : meshOk ro l = true) : ∀ x ∈ l, ceOk x = true := by
  unfold meshOk at h
  cases he : meshEnd l 0 with
  | none => rw [he] at h; cases h
  | some a => exact meshEnd_lvs l 0 a he
theorem gc_mem {l : List Ce} {j : Nat} (h : j < l.length) : gc l j ∈ l := by rw [gc_at h]; exact List.getElem_mem h
theorem meshOk_lvs {ro : Int} {l : List Ce} (h : meshOk ro l = true) : Lvs l := ⟨fun j hj => (ceOk_facts (meshOk_all h _ (gc_mem hj))).2.1⟩
end Go.Proofs.Ytcgikbidgknkpaa.U
