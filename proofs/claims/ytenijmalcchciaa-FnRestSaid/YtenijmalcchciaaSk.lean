
/- States: validity, by the program and by the reference. -/
import Derived.Test.YtenijmalcchciaaUb
import Derived.Test.YtenijmalcchciaaHc
import Derived.Test.YtenijmalcchciaaSm
set_option linter.unusedVariables false
set_option linter.unusedSimpArgs false
namespace Go.Proofs.Ytenijmalcchciaa.U
open Go.RowKit Go.Lib Go.Proofs.YtenijmalcchciaaW.PrintWords
theorem neT {a b : Int} (h : a ≠ b) : (a != b) = true := by simp [h]
theorem neF {a b : Int} (h : a = b) : (a != b) = false := by simp [h]
def cellsOk (ms ts : List Int) : Nat → Nat → Bool
 | 0, _ => true
 | d + 1, j => (inR (rd ms (j : Int)) 0 10000000 && inR (rd ts (j : Int)) 0 (1000 * rd ms (j : Int))) && cellsOk ms ts d (j + 1)
def hasC (ro : Int) (n : Nat) (ms ts bd : List Int) : Bool :=
 decide (ms.length = n) && decide (ts.length = n) && decide ((bd.length : Int) = ro) && bd.all (inR · 0 1000000) && cellsOk ms ts n 0 && decide (ms.sum ≤ 10000000)
def staOk (ro : Int) (lv : List Ce) (ms ts bd : List Int) : Bool := isBal ro lv && hasC ro lv.length ms ts bd
theorem cellsOk_at (ms ts : List Int) : ∀ (d j : Nat), cellsOk ms ts d j = true → ∀ i, j ≤ i → i < j + d → (0 ≤ rd ms (i : Int) ∧ rd ms (i : Int) ≤ 10000000) ∧ (0 ≤ rd ts (i : Int) ∧ rd ts (i : Int) ≤ 1000 * rd ms (i : Int))
 | 0, j, _, i, h1, h2 => by omega
 | d + 1, j, h, i, h1, h2 => by
  simp only [cellsOk, Bool.and_eq_true, inR_iff] at h
  rcases Nat.eq_or_lt_of_le h1 with rfl | h3
  ·exact h.1
  ·exact cellsOk_at ms ts d (j + 1) h.2 i h3 (by omega)
theorem sum_ok_of_cells {ms ts : List Int} {n : Nat} (hl : ms.length = n) (hn : n ≤ 128) (h : cellsOk ms ts n 0 = true) : SumOk ms := by
 refine sumOk_of ms 10000000 (by omega) (fun x hx => ?_) (by omega)
 obtain ⟨i, hi, rfl⟩ := List.getElem_of_mem hx
 have := (cellsOk_at ms ts n 0 h i (by omega) (by omega)).1
 rw [rd_nat, List.getD_eq_getElem?_getD, List.getElem?_eq_getElem hi] at this
 simp only [Option.getD_some] at this
 omega
theorem meshEnd_len : ∀ (l : List Ce) (a b : Int), meshEnd l a = some b → a + l.length ≤ b
 | [], a, b, h => by simp [meshEnd] at h; simp; omega
 | x :: xs, a, b, h => by
  rw [meshEnd] at h
  split at h
  ·rename_i hx
   have h1 := meshEnd_len xs _ _ h
   have h2 := ceOk_facts hx.1
   have h3 : 1 ≤ wid x.l := by
    unfold wid
    have := h2.2.1
    (repeat' split) <;> omega
   have h4 : ceEnd x = a + wid x.l := by rw [ceEnd, hx.2]
   rw [List.length_cons]
   push_cast
   omega
  ·cases h
theorem meshOk_len {ro : Int} {l : List Ce} (h : meshOk ro l = true) : l.length ≤ 128 ∧ (1 ≤ ro ∧ ro ≤ 8) ∧ 1 ≤ l.length := by
 unfold meshOk at h
 cases he : meshEnd l 0 with
 | none => rw [he] at h; cases h
 | some a =>
  rw [he, endIs, Bool.and_eq_true, inR_iff, decide_eq_true_iff] at h
  have := meshEnd_len l 0 a he
  refine ⟨by omega, h.1, ?_⟩
  rcases Nat.eq_zero_or_pos l.length with h0 | h0
  ·rw [List.length_eq_zero_iff.1 h0] at he
   simp [meshEnd] at he
   omega
  ·exact h0
set_option maxHeartbeats 8000000 in
set_option maxRecDepth 100000 in
theorem impl_hasCells (ro : Int) (A0 : Option Addr) (n0 c0 : Nat) (lv : List Ce) (A1 : Option Addr) (n1 c1 : Nat) (ms : List Int) (A2 : Option Addr) (n2 c2 : Nat) (ts : List Int) (A3 : Option Addr) (n3 c3 : Nat) (bd : List Int) (w : World)
  (r0 : IdR w A0 n0 lv) (r1 : RI w A1 n1 ms) (r2 : RI w A2 n2 ts) (r3 : RI w A3 n3 bd) (hn : n0 ≤ 128) :
  Calls Try.prog 100 #[.agg #[.int .i64 ro, .slice A0 n0 c0, .slice A1 n1 c1, .slice A2 n2 c2, .slice A3 n3 c3]] w fun e w' => e = .returned (.bool (hasC ro n0 ms ts bd)) ∧ Bw w w' := by
 have h1 := r1.len
 have h2 := r2.len
 have h3 := r3.len
 have hm1 := r1.max
 have b0 := Bw.box1 w (.cells #[.int .i64 ro, .slice A0 n0 c0, .slice A1 n1 c1, .slice A2 n2 c2, .slice A3 n3 c3] 50)
 have g0 := box_cell (Bw.refl (w.alloc (.cells #[.int .i64 ro, .slice A0 n0 c0, .slice A1 n1 c1, .slice A2 n2 c2, .slice A3 n3 c3] 50))) 0
 have g1 := box_cell (Bw.refl (w.alloc (.cells #[.int .i64 ro, .slice A0 n0 c0, .slice A1 n1 c1, .slice A2 n2 c2, .slice A3 n3 c3] 50))) 1
 have g2 := box_cell (Bw.refl (w.alloc (.cells #[.int .i64 ro, .slice A0 n0 c0, .slice A1 n1 c1, .slice A2 n2 c2, .slice A3 n3 c3] 50))) 2
 have g3 := box_cell (Bw.refl (w.alloc (.cells #[.int .i64 ro, .slice A0 n0 c0, .slice A1 n1 c1, .slice A2 n2 c2, .slice A3 n3 c3] 50))) 3
 have g4 := box_cell (Bw.refl (w.alloc (.cells #[.int .i64 ro, .slice A0 n0 c0, .slice A1 n1 c1, .slice A2 n2 c2, .slice A3 n3 c3] 50))) 4
 simp only [List.getElem?_toArray, List.getElem?_cons_zero, List.getElem?_cons_succ] at g0 g1 g2 g3 g4
 by_cases q1 : n1 = n0
 case neg =>
  rw [show hasC ro n0 ms ts bd = false by simp [hasC, h1, q1]]
  have t1 : ((n1 : Int) != (n0 : Int)) = true := neT (by omega)
  clear q1 h1 h2 h3 hn
  go_enter Try.func100, Try.ntmps100
  go_wp2
  go_ret
  exact ⟨rfl, b0⟩
 by_cases q2 : n2 = n0
 case neg =>
  rw [show hasC ro n0 ms ts bd = false by simp [hasC, h2, q2]]
  have t1 : ((n1 : Int) != (n0 : Int)) = false := neF (by omega)
  have t2 : ((n2 : Int) != (n0 : Int)) = true := neT (by omega)
  clear q1 q2 h1 h2 h3 hn
  go_enter Try.func100, Try.ntmps100
  go_wp2
  go_ret
  exact ⟨rfl, b0⟩
 by_cases q3 : (n3 : Int) = ro
 case neg =>
  rw [show hasC ro n0 ms ts bd = false by simp [hasC, h3, q3]]
  have t1 : ((n1 : Int) != (n0 : Int)) = false := neF (by omega)
  have t2 : ((n2 : Int) != (n0 : Int)) = false := neF (by omega)
  have t3 : ((n3 : Int) != ro) = true := neT q3
  clear q1 q2 q3 h1 h2 h3 hn
  go_enter Try.func100, Try.ntmps100
  go_wp2
  go_ret
  exact ⟨rfl, b0⟩
 have t1 : ((n1 : Int) != (n0 : Int)) = false := neF (by omega)
 have t2 : ((n2 : Int) != (n0 : Int)) = false := neF (by omega)
 have t3 : ((n3 : Int) != ro) = false := neF q3
 have eg := enters_of Try.func130 (by kernel_rfl) rfl
 have HG := hid eg
 clear eg
 cases hb : bd.all (inR · 0 1000000) with
 | false =>
  rw [show hasC ro n0 ms ts bd = false by simp [hasC, hb]]
  have HB : Hid ((bd.any fun x => !inR x 0 1000000) = true) := hid (by rw [← not_any_not] at hb; simpa using hb)
  clear q1 q2 q3 h1 h2 h3 hn hb
  go_enter Try.func100, Try.ntmps100
  go_wp2_with fail
  refine (ContainsFunc A3 _ c3 bd _ _ _ _ (r3.to b0) (bed_pred _) HG.out).mono ?_
  rintro e w1 ⟨rfl, d1⟩
  rw [HB.out]
  go_wp2
  go_ret
  exact ⟨rfl, b0.trans (Bw.drawn d1)⟩
 | true =>
  have HB : Hid ((bd.any fun x => !inR x 0 1000000) = false) := hid (by rw [← not_any_not] at hb; simpa using hb)
  obtain rfl := q1
  obtain rfl := q2
  obtain ⟨R, hR⟩ : ∃ R, cellsOk ms ts n2 0 = R := ⟨_, rfl⟩
  have hval : hasC ro n2 ms ts bd = (R && decide (ms.sum ≤ 10000000)) := by simp [hasC, h1, h2, h3, q3, hb, hR]
  rw [hval]
  have HS : Hid (R = true → SumOk ms) := hid fun h => sum_ok_of_cells h1 hn (hR.trans h)
  have HC := hid (show R = cellsOk ms ts (n2 - 0) 0 from hR.symm)
  clear q3 h1 h2 h3 hb hR hval
  go_enter Try.func100, Try.ntmps100
  go_wp2_with fail
  refine (ContainsFunc A3 _ c3 bd _ _ _ _ (r3.to b0) (bed_pred _) HG.out).mono ?_
  rintro e w1 ⟨rfl, d1⟩
  rw [HB.out]
  have b1 := b0.trans (Bw.drawn d1)
  replace g0 := pw_cell_below (Bw.drawn d1).out g0
  replace g1 := pw_cell_below (Bw.drawn d1).out g1
  replace g2 := pw_cell_below (Bw.drawn d1).out g2
  replace g3 := pw_cell_below (Bw.drawn d1).out g3
  replace g4 := pw_cell_below (Bw.drawn d1).out g4
  clear d1 b0
  go_wp2
  go_loopw [39] (fun v wr => ∃ j : Nat, j ≤ n2 ∧ v = .int .i64 j ∧ Hid (R = cellsOk ms ts (n2 - j) j) ∧ Bw w1 wr) (fun v _ => n2 - (intOf v).toNat)
  case atStart => exact ⟨0, by omega, rfl, HC, Bw.refl _⟩
  case round =>
   obtain ⟨j, hj, rfl, hE, hB⟩ := hrel
   replace g0 := pw_cell_below hB.out g0
   replace g1 := pw_cell_below hB.out g1
   replace g2 := pw_cell_below hB.out g2
   replace g3 := pw_cell_below hB.out g3
   replace g4 := pw_cell_below hB.out g4
   by_cases hlt : j < n2
   ·have t1 : decide ((j : Int) < (n2 : Int)) = true := decide_eq_true (by omega)
    have hnext : Hid (R = ((inR (rd ms (j : Int)) 0 10000000 && inR (rd ts (j : Int)) 0 (1000 * rd ms (j : Int))) && cellsOk ms ts (n2 - (j + 1)) (j + 1))) := hid (by rw [hE.out, show n2 - j = (n2 - (j + 1)) + 1 by omega, cellsOk])
    obtain ⟨ad, rfl, x0⟩ := ((r1.to b1).to hB).nat j hlt
    obtain ⟨ae, rfl, y0⟩ := ((r2.to b1).to hB).nat j hlt
    clear HC hE
    generalize rd ms (j : Int) = x at *
    generalize rd ts (j : Int) = y at *
    cases hx : inR x 0 10000000 with
    | false =>
     have hR : Hid (R = false) := hid (by rw [hnext.out, hx]; rfl)
     have HX := hid hx
     clear hx hnext
     go_wp2_with fail
     refine (toBool (within _ _ _ _) HX.out).mono ?_
     rintro e w2 ⟨rfl, rfl⟩
     go_wp2
     go_ret
     exact ⟨ret_bool (by rw [hR.out]; rfl), b1.trans hB⟩
    | true =>
     have hx' := inR_iff.1 hx
     cases hy : inR y 0 (1000 * x) with
     | false =>
      have hR : Hid (R = false) := hid (by rw [hnext.out, hx, hy]; rfl)
      have HX := hid hx
      have HY := hid hy
      clear hx hy hnext
      go_wp2_with fail
      refine (toBool (within _ _ _ _) HX.out).mono ?_
      rintro e w2 ⟨rfl, rfl⟩
      go_wp2_with fail
      refine (toBool (within _ _ _ _) HY.out).mono ?_
      rintro e w2 ⟨rfl, rfl⟩
      go_wp2
      go_ret
      exact ⟨ret_bool (by rw [hR.out]; rfl), b1.trans hB⟩
     | true =>
      have hR : Hid (R = cellsOk ms ts (n2 - (j + 1)) (j + 1)) := hid (by rw [hnext.out, hx, hy]; rfl)
      have HX := hid hx
      have HY := hid hy
      clear hx hy hnext
      go_wp2_with fail
      refine (toBool (within _ _ _ _) HX.out).mono ?_
      rintro e w2 ⟨rfl, rfl⟩
      go_wp2_with fail
      refine (toBool (within _ _ _ _) HY.out).mono ?_
      rintro e w2 ⟨rfl, rfl⟩
      go_wp2
      go_roundw
      case rel => exact ⟨j + 1, by omega, by go_num, hR, hB⟩
      case measure => simp [intOf]; omega
   ·obtain rfl : j = n2 := by omega
    have t1 : decide ((j : Int) < (j : Int)) = false := decide_eq_false (by omega)
    have hR : Hid (R = true) := hid (by rw [hE.out, Nat.sub_self]; rfl)
    clear HC hE
    go_wp2_with fail
    refine (impl_sum A1 j c1 ms _ ((r1.to b1).to hB) (HS.out hR.out)).mono ?_
    rintro e w2 ⟨rfl, rfl⟩
    go_wp2
    go_ret
    exact ⟨ret_bool (by rw [hR.out]; rfl), b1.trans hB⟩
set_option maxHeartbeats 2000000 in
theorem impl_StateOk (ro : Int) (A0 : Option Addr) (n0 c0 : Nat) (lv : List Ce) (A1 : Option Addr) (n1 c1 : Nat) (ms : List Int) (A2 : Option Addr) (n2 c2 : Nat) (ts : List Int) (A3 : Option Addr) (n3 c3 : Nat) (bd : List Int) (w : World)
  (r0 : IdR w A0 n0 lv) (r1 : RI w A1 n1 ms) (r2 : RI w A2 n2 ts) (r3 : RI w A3 n3 bd) :
  Calls Try.prog 58 #[.agg #[.int .i64 ro, .slice A0 n0 c0, .slice A1 n1 c1, .slice A2 n2 c2, .slice A3 n3 c3]] w fun e w' => e = .returned (.bool (staOk ro lv ms ts bd)) ∧ Bw w w' := by
 have h0 := r0.len
 have b0 := Bw.box1 w (.cells #[.int .i64 ro, .slice A0 n0 c0, .slice A1 n1 c1, .slice A2 n2 c2, .slice A3 n3 c3] 50)
 have g0 := box_cell (Bw.refl (w.alloc (.cells #[.int .i64 ro, .slice A0 n0 c0, .slice A1 n1 c1, .slice A2 n2 c2, .slice A3 n3 c3] 50))) 0
 have g1 := box_cell (Bw.refl (w.alloc (.cells #[.int .i64 ro, .slice A0 n0 c0, .slice A1 n1 c1, .slice A2 n2 c2, .slice A3 n3 c3] 50))) 1
 have g2 := box_cell (Bw.refl (w.alloc (.cells #[.int .i64 ro, .slice A0 n0 c0, .slice A1 n1 c1, .slice A2 n2 c2, .slice A3 n3 c3] 50))) 2
 have g3 := box_cell (Bw.refl (w.alloc (.cells #[.int .i64 ro, .slice A0 n0 c0, .slice A1 n1 c1, .slice A2 n2 c2, .slice A3 n3 c3] 50))) 3
 have g4 := box_cell (Bw.refl (w.alloc (.cells #[.int .i64 ro, .slice A0 n0 c0, .slice A1 n1 c1, .slice A2 n2 c2, .slice A3 n3 c3] 50))) 4
 simp only [List.getElem?_toArray, List.getElem?_cons_zero, List.getElem?_cons_succ] at g0 g1 g2 g3 g4
 cases hk : isBal ro lv with
 | false =>
  rw [show staOk ro lv ms ts bd = false by simp [staOk, hk]]
  have H := hid hk; clear hk h0
  go_enter Try.func58, Try.ntmps58
  go_wp2_with fail
  refine (impl_IsBalanced ro A0 n0 c0 lv _ (r0.to b0)).mono ?_
  rintro e w1 ⟨rfl, b1⟩
  rw [H.out]
  go_wp2
  go_ret
  exact ⟨rfl, b0.trans b1⟩
 | true =>
  rw [show staOk ro lv ms ts bd = hasC ro n0 ms ts bd by simp [staOk, hk, h0]]
  have hn := (meshOk_len (by have := hk; simp only [isBal, Bool.and_eq_true] at this; exact this.1 : meshOk ro lv = true)).1
  rw [h0] at hn
  have H := hid hk; clear hk h0
  go_enter Try.func58, Try.ntmps58
  go_wp2_with fail
  refine (impl_IsBalanced ro A0 n0 c0 lv _ (r0.to b0)).mono ?_
  rintro e w1 ⟨rfl, b1⟩
  rw [H.out]
  replace g0 := pw_cell_below b1.out g0
  replace g1 := pw_cell_below b1.out g1
  replace g2 := pw_cell_below b1.out g2
  replace g3 := pw_cell_below b1.out g3
  replace g4 := pw_cell_below b1.out g4
  replace b0 := b0.trans b1
  clear b1
  go_wp2_with fail
  refine (impl_hasCells ro A0 n0 c0 lv A1 n1 c1 ms A2 n2 c2 ts A3 n3 c3 bd _ (r0.to b0) (r1.to b0) (r2.to b0) (r3.to b0) hn).mono ?_
  rintro e w2 ⟨rfl, b2⟩
  go_wp2
  go_ret
  exact ⟨rfl, b0.trans b2⟩
end Go.Proofs.Ytenijmalcchciaa.U
