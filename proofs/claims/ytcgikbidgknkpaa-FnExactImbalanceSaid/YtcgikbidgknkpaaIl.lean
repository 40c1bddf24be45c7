
/- The laws' helpers on lists of cells: copies, comparison, marks. -/
import Derived.Test.YtcgikbidgknkpaaEn
import Derived.Test.YtcgikbidgknkpaaA1
set_option linter.unusedVariables false
set_option linter.unusedSimpArgs false
namespace Go.Proofs.Ytcgikbidgknkpaa.U
open Go.RowKit Go.Lib Go.Proofs.YtcgikbidgknkpaaW.PrintWords

theorem toId (r l i : Int) (w : World) : Calls Try.prog 86 #[.agg #[.int .i64 r, .int .i64 l, .int .i64 i]] w fun e w' => e = .returned (.agg #[.int .i64 r, .int .i64 l, .int .i64 i]) ∧ Bw w w' := by
  go_enter Try.func86, Try.ntmps86
  go_wp2
  exact bodyPost_ret (v := .agg #[.int .i64 r, .int .i64 l, .int .i64 i]) (by simp [results, Try.results86, go_sem]) rfl ⟨rfl, (((Bw.box1 _ _).alloc _).alloc _)⟩
theorem eqId_yes (r l i : Int) (w : World) : Calls Try.prog 91 #[.agg #[.int .i64 r, .int .i64 l, .int .i64 i], .agg #[.int .i64 r, .int .i64 l, .int .i64 i]] w fun e w' => e = .returned (.bool true) ∧ Bw w w' := by
  have t1 : (r != r) = false := by simp
  have t2 : (l != l) = false := by simp
  have t3 : (i != i) = false := by simp
  go_enter Try.func91, Try.ntmps91
  go_wp2
  go_ret
  exact ⟨rfl, (Bw.box1 _ _).alloc _⟩
set_option maxHeartbeats 2000000 in
theorem toIdS (A : Option Addr) (n c : Nat) (l : List Ce) (w : World) (hR : IdR w A n l) (hn : n ≤ 1048576) :
    Calls Try.prog 64 #[.slice A n c] w fun e w' => ∃ v, e = .returned v ∧ IdO w' w.heap.size v n l ∧ Bw w w' := by
  have hl := hR.len
  have HL := hid hl
  have hmk := make_st (P := Try.prog) 24 84 (.agg #[.int .i64 0, .int .i64 0, .int .i64 0]) 3 24 Try.underlying24 info_id n (by omega) (by omega)
  have o0 := IdO.made w w.heap.size n (Nat.le_refl _) (by omega)
  have b0 := Bw.box1 w (.cells (madeCells #[.int .i64 0, .int .i64 0, .int .i64 0] (n * 3)) 84)
  have HC : Hid (l.take 0 ++ List.replicate (l.length - 0) cz = List.replicate n cz) := hid (by simp [hl])
  clear hl
  go_enter Try.func64, Try.ntmps64
  go_wp2
  clear hmk
  go_loopw [4] (fun v4 wr => ∃ j : Nat, j ≤ n ∧ v4 = .int .i64 j ∧ Hid (IdO wr w.heap.size (.slice (some ⟨w.heap.size, 0, none⟩) n n) n (l.take j ++ List.replicate (l.length - j) cz)) ∧ Hid (Bw w wr)) (fun v4 _ => n - (intOf v4).toNat)
  case atStart => exact ⟨0, by omega, rfl, hid (by rw [HC.out]; exact o0), hid b0⟩
  case round =>
    obtain ⟨j, hj, rfl, hO, hB⟩ := hrel
    by_cases hlt : j < n
    · have t1 : decide ((j : Int) < (n : Int)) = true := decide_eq_true (by omega)
      have hst := hid (copy_step l j cz (gc l j) (by rw [HL.out]; exact hlt) (by rw [List.getElem?_eq_getElem (by rw [HL.out]; exact hlt), gc_at (by rw [HL.out]; exact hlt)]))
      have hlen := hid (show j < (l.take j ++ List.replicate (l.length - j) cz).length by simp; rw [HL.out]; omega)
      obtain ⟨ad, rfl, x0, x1, x2⟩ := (hR.to hB.out).at j hlt
      generalize gc l j = x at *
      obtain ⟨xr, xl, xi⟩ := x
      simp only at x0 x1 x2
      go_wp2_with fail
      refine (toId _ _ _ _).mono ?_
      rintro e w1 ⟨rfl, b1⟩
      have hO1 := hO.out.to b1
      have hB1 := hB.out.trans b1
      obtain ⟨k0, f0⟩ := hO1.cell (j := j * 3) (by omega)
      obtain ⟨k1, f1⟩ := hO1.cell (j := j * 3 + 1) (by omega)
      obtain ⟨k2, f2⟩ := hO1.cell (j := j * 3 + 2) (by omega)
      have hO2 := ((hO1.set (j := j * 3) (by omega) xr).set (j := j * 3 + 1) (by omega) xl).set (j := j * 3 + 2) (by omega) xi
      have hp := idF_put _ j ⟨xr, xl, xi⟩ hlen.out
      simp only at hp
      rw [hp, hst.out] at hO2
      have HO2 := hid hO2
      have HB2 := hid (bw_set (bw_set (bw_set hB1 (Nat.le_refl _) (j * 3) (.int .i64 xr)) (Nat.le_refl _) (j * 3 + 1) (.int .i64 xl)) (Nat.le_refl _) (j * 3 + 2) (.int .i64 xi))
      clear hO2 hp hO1 hB1 hst hlen hO hB HC o0
      go_wp2
      go_roundw
      case rel => exact ⟨j + 1, by omega, by go_num, HO2, HB2⟩
      case measure => simp [intOf]; omega
    · obtain rfl : j = n := by omega
      have t1 : decide ((j : Int) < (j : Int)) = false := decide_eq_false (by omega)
      go_wp2
      go_ret
      exact ⟨_, rfl, by have h := hO.out; rwa [HL.out, Nat.sub_self, List.take_of_length_le (by rw [HL.out]; exact Nat.le_refl _), List.replicate_zero, List.append_nil] at h, hB.out⟩
theorem eq_at_c {w : World} {A : Option Addr} {n : Nat} {l : List Ce} (h : IdR w A n l) (j : Nat) (hj : j < n) : ∃ ad, A = some ad ∧ w.cell? (ad.add (j * 3)) = some (.int .i64 (gc l j).r) ∧ w.cell? ⟨(ad.add (j * 3)).block, (ad.add (j * 3)).off + 1, none⟩ = some (.int .i64 (gc l j).l) ∧ w.cell? ⟨(ad.add (j * 3)).block, (ad.add (j * 3)).off + 2, none⟩ = some (.int .i64 (gc l j).i) := h.at j hj
set_option maxHeartbeats 4000000 in
set_option maxRecDepth 100000 in
theorem eqIdS_yes (A : Option Addr) (n c : Nat) (B : Option Addr) (d : Nat) (l : List Ce) (w : World) (r : IdR w A n l) (q : IdR w B n l) :
    Calls Try.prog 67 #[.slice A n c, .slice B n d] w fun e w' => e = .returned (.bool true) ∧ Bw w w' := by
  have hmax := r.max
  have t0 : ((n : Int) != (n : Int)) = false := by simp
  go_enter Try.func67, Try.ntmps67
  go_wp2
  go_loopw [5] (fun v5 wr => ∃ j : Nat, j ≤ n ∧ v5 = .int .i64 j ∧ Hid (Bw w wr)) (fun v5 _ => n - (intOf v5).toNat)
  case atStart => exact ⟨0, by omega, rfl, hid (Bw.refl _)⟩
  case round =>
    obtain ⟨j, hj, rfl, hB⟩ := hrel
    by_cases hlt : j < n
    · have t1 : decide ((j : Int) < (n : Int)) = true := decide_eq_true (by omega)
      obtain ⟨ad, rfl, x0, x1, x2⟩ := (r.to hB.out).at j hlt
      obtain ⟨ae, rfl, y0, y1, y2⟩ := (q.to hB.out).at j hlt
      generalize gc l j = x at *
      obtain ⟨xr, xl, xi⟩ := x
      simp only at x0 x1 x2 y0 y1 y2
      have i4 : (0 : Int) ≤ (j : Int) := by omega
      have i5 : (j : Int) < (n : Int) := by omega
      go_wp2
      go_region_held3 (fun w' => w'.cell? (ad.add (j * 3)) = some (.int .i64 xr) ∧ w'.cell? ⟨(ad.add (j * 3)).block, (ad.add (j * 3)).off + 1, none⟩ = some (.int .i64 xl) ∧ w'.cell? ⟨(ad.add (j * 3)).block, (ad.add (j * 3)).off + 2, none⟩ = some (.int .i64 xi) ∧ w'.cell? (ae.add (j * 3)) = some (.int .i64 xr) ∧ w'.cell? ⟨(ae.add (j * 3)).block, (ae.add (j * 3)).off + 1, none⟩ = some (.int .i64 xl) ∧ w'.cell? ⟨(ae.add (j * 3)).block, (ae.add (j * 3)).off + 2, none⟩ = some (.int .i64 xi)) (first | go_keep | (go_split_ands; exact ⟨pw_cell_below b.out (by assumption), pw_cell_below b.out (by assumption), pw_cell_below b.out (by assumption), pw_cell_below b.out (by assumption), pw_cell_below b.out (by assumption), pw_cell_below b.out (by assumption)⟩)) ((go_at_call 91; refine (eqId_yes xr xl xi _).mono ?_; rintro e w' ⟨rfl, b⟩))
      go_wp2
      go_roundw
      case rel => exact ⟨j + 1, by omega, by go_num, hid (hB.out.trans ((Bw.drawn ⟨⟨1, rfl⟩⟩).trans b))⟩
      case measure => simp [intOf]; omega
    · obtain rfl : j = n := by omega
      have t1 : decide ((j : Int) < (j : Int)) = false := decide_eq_false (by omega)
      go_wp2
      go_ret
      exact ⟨rfl, hB.out⟩
theorem three_iota (F : List Int) (a : Int) (k : Nat) (h : k + 2 < F.length) : (((iota k a ++ F.drop k).set k (a + k)).set (k + 1) (a + k + 1)).set (k + 2) (a + k + 1 + 1) = iota (k + 3) a ++ F.drop (k + 3) := by
  rw [set_iota F a k (by omega), show a + (k : Int) + 1 = a + ((k + 1 : Nat) : Int) by omega, set_iota F a (k + 1) (by omega), show a + ((k + 1 : Nat) : Int) + 1 = a + ((k + 2 : Nat) : Int) by omega, set_iota F a (k + 2) (by omega)]
set_option maxHeartbeats 2000000 in
theorem markIdS (v : Value) (n : Nat) (F : List Int) (a : Int) (w : World) (base : Nat) (hO : FO w base 84 3 v n F) (hn : n ≤ 1048576) (h0 : 0 ≤ a) (ha : a ≤ 1000000000000) :
    Calls Try.prog 41 #[v, .int .i64 a] w fun e w' => e = .returned (.int .i64 (a + (n * 3 : Nat))) ∧ FO w' base 84 3 v n (iota (n * 3) a) ∧ w.grownBy w' v.ownBlock := by
  have HL := hid hO.len
  obtain ⟨A, c, rfl, _, _⟩ := hO.reads
  have H := hid hO; clear hO
  obtain ⟨row, hrow⟩ : ∃ row, row = (Value.slice A n c).ownBlock := ⟨_, rfl⟩
  have HRW := hid hrow
  rw [← hrow]
  clear hrow
  go_enter Try.func41, Try.ntmps41
  go_wp2
  go_loopw [1, 5] (fun v1 v5 wr => ∃ (k : Nat) (b : Int), k ≤ n ∧ (0 ≤ b ∧ b ≤ 1000004000000) ∧ v1 = .int .i64 b ∧ v5 = .int .i64 k ∧ Hid (b = a + (k * 3 : Nat)) ∧ Hid (FO wr base 84 3 (.slice A n c) n (iota (k * 3) a ++ F.drop (k * 3))) ∧ Hid (w.grownBy wr row)) (fun _ v5 _ => n - (intOf v5).toNat)
  case atStart => exact ⟨0, a, by omega, by omega, rfl, rfl, hid (by simp), hid (by simpa [iota] using H.out), hid (grown_refl _ _)⟩
  case round =>
    obtain ⟨k, b, hk, hb, rfl, rfl, hE, hO, hG⟩ := hrel
    by_cases hlt : k < n
    · have t1 : decide ((k : Int) < (n : Int)) = true := decide_eq_true (by omega)
      obtain ⟨g, rfl, hgb, hgl, _⟩ := hO.out.form (by omega)
      obtain ⟨k0, f0⟩ := hO.out.cell (j := k * 3) (by omega)
      obtain ⟨k1, f1⟩ := hO.out.cell (j := k * 3 + 1) (by omega)
      obtain ⟨k2, f2⟩ := hO.out.cell (j := k * 3 + 2) (by omega)
      obtain rfl : row = some g := HRW.out
      have hO2 := ((hO.out.set (j := k * 3) (by omega) b).set (j := k * 3 + 1) (by omega) (b + 1)).set (j := k * 3 + 2) (by omega) (b + 1 + 1)
      have hth := three_iota F a (k * 3) (by rw [HL.out]; omega)
      rw [← hE.out] at hth
      rw [hth] at hO2
      have HO2 := hid hO2
      have HG2 := hid (grown_set (grown_set (grown_set hG.out (k * 3) (.int .i64 b)) (k * 3 + 1) (.int .i64 (b + 1))) (k * 3 + 2) (.int .i64 (b + 1 + 1)))
      have HE2 : Hid (b + 1 + 1 + 1 = a + ((k + 1) * 3 : Nat)) := hid (by rw [hE.out]; omega)
      have hb2 : 0 ≤ b + 1 + 1 + 1 ∧ b + 1 + 1 + 1 ≤ 1000004000000 := by have := hE.out; omega
      clear hO2 hth hO hG hE
      generalize rd (iota (k * 3) a ++ List.drop (k * 3) F) ((k * 3 : Nat) : Int) = z0 at *
      generalize rd (iota (k * 3) a ++ List.drop (k * 3) F) ((k * 3 + 1 : Nat) : Int) = z1 at *
      generalize rd (iota (k * 3) a ++ List.drop (k * 3) F) ((k * 3 + 2 : Nat) : Int) = z2 at *
      go_wp2
      go_roundw
      case rel => exact ⟨k + 1, _, by omega, hb2, rfl, by go_num, HE2, by rw [show (k + 1) * 3 = k * 3 + 3 by omega]; exact HO2, HG2⟩
      case measure => simp [intOf]; omega
    · obtain rfl : k = n := by omega
      have t1 : decide ((k : Int) < (k : Int)) = false := decide_eq_false (by omega)
      go_wp2
      go_ret
      have ho := hO.out
      rw [List.drop_of_length_le (by rw [HL.out]; exact Nat.le_refl _), List.append_nil] at ho
      exact ⟨ret_int hE.out, ho, hG.out⟩
theorem FR.nat3 {w : World} {A : Option Addr} {n : Nat} {F : List Int} (h : FR w 3 A n F) (j : Nat) (hj : j < n) : ∃ ad, A = some ad ∧ w.cell? (ad.add (j * 3)) = some (.int .i64 (rd F ((j * 3 : Nat) : Int))) ∧ w.cell? ⟨(ad.add (j * 3)).block, (ad.add (j * 3)).off + 1, none⟩ = some (.int .i64 (rd F ((j * 3 + 1 : Nat) : Int))) ∧ w.cell? ⟨(ad.add (j * 3)).block, (ad.add (j * 3)).off + 2, none⟩ = some (.int .i64 (rd F ((j * 3 + 2 : Nat) : Int))) := by
  obtain ⟨ad, e, hc⟩ := h.at_ (by omega)
  have h1 := hc (j * 3 + 1) (by omega)
  have h2 := hc (j * 3 + 2) (by omega)
  rw [add_field _ _ _ (by omega)] at h1 h2
  exact ⟨ad, e, hc (j * 3) (by omega), h1, h2⟩
set_option maxHeartbeats 2000000 in
theorem heldIdS (A : Option Addr) (n c : Nat) (a : Int) (w : World) (hR : FR w 3 A n (iota (n * 3) a)) (hn : n ≤ 1048576) (h0 : 0 ≤ a) (ha : a ≤ 1000000000000) :
    Calls Try.prog 51 #[.slice A n c, .int .i64 a] w fun e w' => e = .returned (.int .i64 (a + (n * 3 : Nat))) ∧ w = w' := by
  go_enter Try.func51, Try.ntmps51
  go_wp2
  go_loopw [1, 5] (fun v1 v5 wr => ∃ (k : Nat) (b : Int), k ≤ n ∧ (0 ≤ b ∧ b ≤ 1000004000000) ∧ v1 = .int .i64 b ∧ v5 = .int .i64 k ∧ Hid (b = a + (k * 3 : Nat)) ∧ w = wr) (fun _ v5 _ => n - (intOf v5).toNat)
  case atStart => exact ⟨0, a, by omega, by omega, rfl, rfl, hid (by simp), rfl⟩
  case round =>
    obtain ⟨k, b, hk, hb, rfl, rfl, hE, rfl⟩ := hrel
    by_cases hlt : k < n
    · have t1 : decide ((k : Int) < (n : Int)) = true := decide_eq_true (by omega)
      obtain ⟨ad, rfl, c0, c1, c2⟩ := hR.nat3 k hlt
      rw [iota_rd _ a _ (by omega)] at c0 c1 c2
      have e0 : a + ((k * 3 : Nat) : Int) = b := hE.out.symm
      have e1 : a + ((k * 3 + 1 : Nat) : Int) = b + 1 := by have := hE.out; omega
      have e2 : a + ((k * 3 + 2 : Nat) : Int) = b + 1 + 1 := by have := hE.out; omega
      rw [e0] at c0
      rw [e1] at c1
      rw [e2] at c2
      have HE2 : Hid (b + 1 + 1 + 1 = a + ((k + 1) * 3 : Nat)) := hid (by rw [hE.out]; omega)
      have hb2 : 0 ≤ b + 1 + 1 + 1 ∧ b + 1 + 1 + 1 ≤ 1000004000000 := by have := hE.out; omega
      have n0 : (b != b) = false := by simp
      have n1 : (b + 1 != b + 1) = false := by simp
      have n2 : (b + 1 + 1 != b + 1 + 1) = false := by simp
      clear e0 e1 e2 hE
      go_wp2
      go_roundw
      case rel => exact ⟨k + 1, _, by omega, hb2, rfl, by go_num, HE2, by first | rfl | trivial⟩
      case measure => simp [intOf]; omega
    · obtain rfl : k = n := by omega
      have t1 : decide ((k : Int) < (k : Int)) = false := decide_eq_false (by omega)
      go_wp2
      go_ret
      exact ⟨ret_int hE.out, rfl⟩
theorem szIdS (A : Option Addr) (n c : Nat) (left : Int) (w : World) (hm : n ≤ 9223372036854775807) (h : 0 ≤ left ∧ left ≤ 1048576) :
    Calls Try.prog 60 #[.slice A n c, .int .i64 left] w fun e w' => e = .returned (.int .i64 (if left - n < 0 then -1 else left - n)) ∧ w = w' := by
  by_cases hd : left - (n : Int) < 0
  · rw [if_pos hd]
    have t1 : decide (left - (n : Int) < 0) = true := decide_eq_true hd
    go_enter Try.func60, Try.ntmps60
    go_wp2
    go_ret
    exact ⟨rfl, rfl⟩
  · rw [if_neg hd]
    have t1 : decide (left - (n : Int) < 0) = false := decide_eq_false hd
    go_enter Try.func60, Try.ntmps60
    go_wp2
    go_ret
    exact ⟨rfl, rfl⟩
theorem szIntS (A : Option Addr) (n c : Nat) (left : Int) (w : World) (hm : n ≤ 9223372036854775807) (h : 0 ≤ left ∧ left ≤ 1048576) :
    Calls Try.prog 45 #[.slice A n c, .int .i64 left] w fun e w' => e = .returned (.int .i64 (if left - n < 0 then -1 else left - n)) ∧ w = w' := by
  by_cases hd : left - (n : Int) < 0
  · rw [if_pos hd]
    have t1 : decide (left - (n : Int) < 0) = true := decide_eq_true hd
    go_enter Try.func45, Try.ntmps45
    go_wp2
    go_ret
    exact ⟨rfl, rfl⟩
  · rw [if_neg hd]
    have t1 : decide (left - (n : Int) < 0) = false := decide_eq_false hd
    go_enter Try.func45, Try.ntmps45
    go_wp2
    go_ret
    exact ⟨rfl, rfl⟩
end Go.Proofs.Ytcgikbidgknkpaa.U
