
/- The law FnMacro returns true at all codes. -/
import Derived.Test.YtenijmalcchciaaG17
import Derived.Test.YtenijmalcchciaaG10
import Derived.Test.YtenijmalcchciaaG8
import Derived.Test.YtenijmalcchciaaG13
set_option linter.unusedVariables false
set_option linter.unusedSimpArgs false
namespace Go.Proofs.Ytenijmalcchciaa.U
open Go.RowKit Go.Lib Go.Proofs.YtenijmalcchciaaW.PrintWords
open Go.Proofs.YtenijmalcchciaaW.PrintLast Go.Proofs.YtenijmalcchciaaW.PrintMore
theorem StR_m {w : World} {x : Value} {s z : Sta} {m : Nat} (h : StR w x z) (e : z.ro = s.ro ∧ z.lv.length = m ∧ z.ms.length = m ∧ z.ts.length = m ∧ z.bd.length = s.bd.length) :
  ∃ (A0 : Option Addr) (c0 : Nat) (A1 : Option Addr) (c1 : Nat) (A2 : Option Addr) (c2 : Nat) (A3 : Option Addr) (c3 : Nat), x = .agg #[.int .i64 s.ro, .slice A0 m c0, .slice A1 m c1, .slice A2 m c2, .slice A3 s.bd.length c3] ∧ RI w A1 m z.ms := by
 obtain ⟨A0, c0, A1, c1, A2, c2, A3, c3, rfl, r0, r1, r2, r3⟩ := h
 obtain ⟨e0, e1, e2, e3, e4⟩ := e
 rw [e0, e1, e2, e3, e4]
 rw [e2] at r1
 exact ⟨_, _, _, _, _, _, _, _, rfl, r1⟩
set_option maxHeartbeats 8000000 in
set_option maxRecDepth 100000 in
theorem law_Macro (A : Option Addr) (n c : Nat) (l : List Int) (w : World) (r : ReadsInt w .u8 A n l) (wf : ∀ x ∈ l, 0 ≤ x ∧ x ≤ 255) :
  Calls Try.prog 5 #[.slice A n c] w fun e w' => e = .returned (.bool true) ∧ Bw w w' := by
 have WF := hid wf
 clear wf
 by_cases hb : n ≤ 1048576
 ·have t1 : decide (1048576 < (n : Int)) = false := decide_eq_false (by omega)
  have T1 := hid t1
  clear t1
  go_enter Try.func5, Try.ntmps5
  go_wp2_with fail
  refine (toBool (lawbig _ _ _ _) T1.out).mono ?_
  rintro e w1 ⟨rfl, rfl⟩
  go_wp2_with fail
  refine (DrawState A n c l _ r WF.out hb).mono ?_
  rintro e w1 ⟨x, s, rfl, hs, hO, b1⟩
  obtain ⟨m, hm⟩ : ∃ m, s.lv.length = m := ⟨_, rfl⟩
  have hms : s.ms.length = m := by rw [hs.cs.lm, hm]
  have hts : s.ts.length = m := by rw [hs.cs.lt, hm]
  have hm1 : 1 ≤ m ∧ m ≤ 48 := by
   have h1 := hs.ok
   simp only [staOk, isBal, Bool.and_eq_true] at h1
   have := meshOk_len h1.1.1
   have := hs.n
   omega
  have HOK := hid hs.ok
  have HLEN := hid (fun k => by have h := macS_len hs.ok k; rw [hm] at h; exact (show (macS s k).ro = s.ro ∧ (macS s k).lv.length = m ∧ (macS s k).ms.length = m ∧ (macS s k).ts.length = m ∧ (macS s k).bd.length = s.bd.length from ⟨(macS_same s k).1, h⟩))
  have HM := hid (show s.lv.length = m ∧ s.ms.length = m ∧ s.ts.length = m from ⟨hm, hms, hts⟩)
  obtain ⟨X0, y0, X1, y1, X2, y2, X3, y3, rfl, q1⟩ := StR_m hO.r (HLEN.out 0)
  clear hs hm hms hts
  have b2 := Bw.box1 w1 (.cells #[.int .i64 s.ro, .slice X0 m y0, .slice X1 m y1, .slice X2 m y2, .slice X3 s.bd.length y3] 50)
  have g0 := box_cell (Bw.refl (w1.alloc (.cells #[.int .i64 s.ro, .slice X0 m y0, .slice X1 m y1, .slice X2 m y2, .slice X3 s.bd.length y3] 50))) 0
  have g1 := box_cell (Bw.refl (w1.alloc (.cells #[.int .i64 s.ro, .slice X0 m y0, .slice X1 m y1, .slice X2 m y2, .slice X3 s.bd.length y3] 50))) 1
  have g2 := box_cell (Bw.refl (w1.alloc (.cells #[.int .i64 s.ro, .slice X0 m y0, .slice X1 m y1, .slice X2 m y2, .slice X3 s.bd.length y3] 50))) 2
  have g3 := box_cell (Bw.refl (w1.alloc (.cells #[.int .i64 s.ro, .slice X0 m y0, .slice X1 m y1, .slice X2 m y2, .slice X3 s.bd.length y3] 50))) 3
  have g4 := box_cell (Bw.refl (w1.alloc (.cells #[.int .i64 s.ro, .slice X0 m y0, .slice X1 m y1, .slice X2 m y2, .slice X3 s.bd.length y3] 50))) 4
  simp only [List.getElem?_toArray, List.getElem?_cons_zero, List.getElem?_cons_succ] at g0 g1 g2 g3 g4
  have hB := b1.trans b2
  have hs1 : w.heap.size ≤ w1.heap.size := b1.size
  have hz1 : (w1.alloc (.cells #[.int .i64 s.ro, .slice X0 m y0, .slice X1 m y1, .slice X2 m y2, .slice X3 s.bd.length y3] 50)).heap.size = w1.heap.size + 1 := by simp
  have HZ1 := hid hz1
  replace hO := hO.to b2
  replace q1 := q1.to b2
  clear b1 b2 hz1
  go_wp2_with fail
  generalize (w1.alloc (.cells #[.int .i64 s.ro, .slice X0 m y0, .slice X1 m y1, .slice X2 m y2, .slice X3 s.bd.length y3] 50)) = w2 at *
  refine (impl_MacroStep _ s _ hO.r HOK.out).mono ?_
  rintro e w3 ⟨v, rfl, hX, b3⟩
  obtain ⟨Z0, z0, Z1, z1, Z2, z2, Z3, z3, rfl, qx⟩ := StR_m hX.r (HLEN.out 16)
  have b4 := Bw.box1 w3 (.cells #[.int .i64 s.ro, .slice Z0 m z0, .slice Z1 m z1, .slice Z2 m z2, .slice Z3 s.bd.length z3] 50)
  have h0 := box_cell (Bw.refl (w3.alloc (.cells #[.int .i64 s.ro, .slice Z0 m z0, .slice Z1 m z1, .slice Z2 m z2, .slice Z3 s.bd.length z3] 50))) 0
  have h1 := box_cell (Bw.refl (w3.alloc (.cells #[.int .i64 s.ro, .slice Z0 m z0, .slice Z1 m z1, .slice Z2 m z2, .slice Z3 s.bd.length z3] 50))) 1
  have h2 := box_cell (Bw.refl (w3.alloc (.cells #[.int .i64 s.ro, .slice Z0 m z0, .slice Z1 m z1, .slice Z2 m z2, .slice Z3 s.bd.length z3] 50))) 2
  have h3 := box_cell (Bw.refl (w3.alloc (.cells #[.int .i64 s.ro, .slice Z0 m z0, .slice Z1 m z1, .slice Z2 m z2, .slice Z3 s.bd.length z3] 50))) 3
  have h4 := box_cell (Bw.refl (w3.alloc (.cells #[.int .i64 s.ro, .slice Z0 m z0, .slice Z1 m z1, .slice Z2 m z2, .slice Z3 s.bd.length z3] 50))) 4
  simp only [List.getElem?_toArray, List.getElem?_cons_zero, List.getElem?_cons_succ] at h0 h1 h2 h3 h4
  have bb := b3.trans b4
  replace g0 := pw_cell_below bb.out g0
  replace g1 := pw_cell_below bb.out g1
  replace g2 := pw_cell_below bb.out g2
  replace g3 := pw_cell_below bb.out g3
  replace g4 := pw_cell_below bb.out g4
  replace hB := hB.trans bb
  replace hO := hO.to bb
  replace q1 := q1.to bb
  replace hX := hX.to b4
  replace qx := qx.to b4
  have hs3 : w2.heap.size ≤ w3.heap.size := b3.size
  have hz4 : (w3.alloc (.cells #[.int .i64 s.ro, .slice Z0 m z0, .slice Z1 m z1, .slice Z2 m z2, .slice Z3 s.bd.length z3] 50)).heap.size = w3.heap.size + 1 := by simp
  have HZ4 := hid hz4
  clear b3 b4 bb hz4
  have tn : ((m : Int) != (m : Int)) = false := by simp
  go_upto_region 7 with fail
  generalize (w3.alloc (.cells #[.int .i64 s.ro, .slice Z0 m z0, .slice Z1 m z1, .slice Z2 m z2, .slice Z3 s.bd.length z3] 50)) = w4 at *
  have b5 := Bw.box1 w4 (.cells #[.int .i64 s.ro, .slice X0 m y0, .slice X1 m y1, .slice X2 m y2, .slice X3 s.bd.length y3] 50)
  have HY0 := hid (heap_alloc_new w4 (.cells #[.int .i64 s.ro, .slice X0 m y0, .slice X1 m y1, .slice X2 m y2, .slice X3 s.bd.length y3] 50 (0, 0)))
  have hz5 : (w4.alloc (.cells #[.int .i64 s.ro, .slice X0 m y0, .slice X1 m y1, .slice X2 m y2, .slice X3 s.bd.length y3] 50)).heap.size = w4.heap.size + 1 := by simp
  have HZ5 := hid hz5
  -- all that is read later, at the world w5
  have K_g0 := hid (pw_cell_below b5.out g0)
  have K_g1 := hid (pw_cell_below b5.out g1)
  have K_g2 := hid (pw_cell_below b5.out g2)
  have K_g3 := hid (pw_cell_below b5.out g3)
  have K_g4 := hid (pw_cell_below b5.out g4)
  have K_h0 := hid (pw_cell_below b5.out h0)
  have K_h1 := hid (pw_cell_below b5.out h1)
  have K_h2 := hid (pw_cell_below b5.out h2)
  have K_h3 := hid (pw_cell_below b5.out h3)
  have K_h4 := hid (pw_cell_below b5.out h4)
  have HO5 := hid (hO.to b5)
  have HQ5 := hid (q1.to b5)
  have HX5 := hid (hX.to b5)
  have HQX5 := hid (qx.to b5)
  have HB5 := hid (hB.trans b5)
  have hs4 : w1.heap.size + 1 ≤ w2.heap.size ∧ w3.heap.size + 1 ≤ w4.heap.size := by have := HZ1.out; have := HZ4.out; omega
  clear hO q1 hX qx hB b5 hz5
  go_upto_region 8 with fail
  clear g0 g1 g2 g3 g4 h0 h1 h2 h3 h4
  generalize (w4.alloc (.cells #[.int .i64 s.ro, .slice X0 m y0, .slice X1 m y1, .slice X2 m y2, .slice X3 s.bd.length y3] 50)) = w5 at *
  have hs5 : w4.heap.size + 1 ≤ w5.heap.size := by have := HZ5.out; omega
  generalize w4.heap.size = Y at *
  have HST0 := hid (show ∃ (lo hi : Nat) (Y0 : Option Addr) (v0 : Nat) (Y1 : Option Addr) (v1 : Nat) (Y2 : Option Addr) (v2 : Nat) (Y3 : Option Addr) (v3 : Nat), w5.heap[Y]? = some (.cells #[.int .i64 s.ro, .slice Y0 m v0, .slice Y1 m v1, .slice Y2 m v2, .slice Y3 s.bd.length v3] 50 (0, 0)) ∧ StO w5 lo hi (.agg #[.int .i64 s.ro, .slice Y0 m v0, .slice Y1 m v1, .slice Y2 m v2, .slice Y3 s.bd.length v3]) (macS s 0) ∧ (hi ≤ Y ∨ Y < lo) from ⟨_, _, _, _, _, _, _, _, _, _, HY0.out, HO5.out, Or.inl (by omega)⟩)
  go_wp2
  go_loopw [6] (fun v6 wr => ∃ k : Nat, k ≤ 16 ∧ v6 = .int .i64 k ∧ Hid (∃ (lo hi : Nat) (Y0 : Option Addr) (v0 : Nat) (Y1 : Option Addr) (v1 : Nat) (Y2 : Option Addr) (v2 : Nat) (Y3 : Option Addr) (v3 : Nat), wr.heap[Y]? = some (.cells #[.int .i64 s.ro, .slice Y0 m v0, .slice Y1 m v1, .slice Y2 m v2, .slice Y3 s.bd.length v3] 50 (0, 0)) ∧ StO wr lo hi (.agg #[.int .i64 s.ro, .slice Y0 m v0, .slice Y1 m v1, .slice Y2 m v2, .slice Y3 s.bd.length v3]) (macS s k) ∧ (hi ≤ Y ∨ Y < lo)) ∧ Hid (Uw w5 wr Y Y)) (fun v6 _ => 16 - (intOf v6).toNat)
  case atStart => exact ⟨0, by omega, rfl, HST0, hid (Uw.refl _ _ _)⟩
  case round =>
   obtain ⟨k, hk, rfl, hST, hU⟩ := hrel
   by_cases hlt : k < 16
   ·have t1 : decide ((k : Int) < 16) = true := decide_eq_true (by omega)
    have t2 : decide (k < 16) = true := decide_eq_true (by omega)
    have e1 : IntKind.i64.wrap ((k : Int) + 1) = (k : Int) + 1 := i64w (by omega) (by omega)
    have hkk := hid (show k + 1 ≤ 16 ∧ 16 - (k + 1) < 16 - k by clear e1; omega)
    obtain ⟨lo, hi, Y0, v0, Y1, v1, Y2, v2, Y3, v3, hY, hS, hd⟩ := hST.out
    have k0 := (blk_cell hY 0).trans (show _ = some (Value.int .i64 s.ro) from rfl)
    have k1 := (blk_cell hY 1).trans (show _ = some (Value.slice Y0 m v0) from rfl)
    have k2 := (blk_cell hY 2).trans (show _ = some (Value.slice Y1 m v1) from rfl)
    have k3 := (blk_cell hY 3).trans (show _ = some (Value.slice Y2 m v2) from rfl)
    have k4 := (blk_cell hY 4).trans (show _ = some (Value.slice Y3 s.bd.length v3) from rfl)
    clear hST
    have HS := hid hS
    clear hS
    go_wp2_with fail
    refine (impl_StepState _ (macS s k) (k : Int) _ HS.out.r (macS_ok HOK.out k) (by clear e1; omega)).mono ?_
    rintro e w6 ⟨v, rfl, hN, b6⟩
    have htick : tickS (macS s k) (k : Int) = macS s (k + 1) := if_pos (by clear e1; omega)
    rw [htick] at hN
    obtain ⟨N0, n0, N1, n1, N2, n2, N3, n3, rfl, _⟩ := StR_m hN.r (HLEN.out (k + 1))
    have hY6 := (b6.out.block _ (blk_lt hY)).trans hY
    have hlt6 := blk_lt hY
    have hU6 := hU.out.bw b6
    have hz6 := b6.size
    have s0 := (blk_cell hY6 0).trans (show _ = some (Value.int .i64 s.ro) from rfl)
    have f0 := blk_frozen hY6 0
    have s1 := (blk_cell hY6 1).trans (show _ = some (Value.slice Y0 m v0) from rfl)
    have f1 := blk_frozen hY6 1
    have s2 := (blk_cell hY6 2).trans (show _ = some (Value.slice Y1 m v1) from rfl)
    have f2 := blk_frozen hY6 2
    have s3 := (blk_cell hY6 3).trans (show _ = some (Value.slice Y2 m v2) from rfl)
    have f3 := blk_frozen hY6 3
    have s4 := (blk_cell hY6 4).trans (show _ = some (Value.slice Y3 s.bd.length v3) from rfl)
    have f4 := blk_frozen hY6 4
    have hwi : Wi w6 (((((w6.setCell ⟨Y, 0, none⟩ (.int .i64 s.ro)).setCell ⟨Y, 1, none⟩ (.slice N0 m n0)).setCell ⟨Y, 2, none⟩ (.slice N1 m n1)).setCell ⟨Y, 3, none⟩ (.slice N2 m n2)).setCell ⟨Y, 4, none⟩ (.slice N3 s.bd.length n3)) Y (Y + 1) := (((((Wi.refl _ _ _).trans (Wi.set _ _ 0 (.int .i64 s.ro))).trans (Wi.set _ _ 1 (.slice N0 m n0))).trans (Wi.set _ _ 2 (.slice N1 m n1))).trans (Wi.set _ _ 3 (.slice N2 m n2))).trans (Wi.set _ _ 4 (.slice N3 s.bd.length n3))
    have hST2 := hid (show ∃ (lo hi : Nat) (Y0 : Option Addr) (v0 : Nat) (Y1 : Option Addr) (v1 : Nat) (Y2 : Option Addr) (v2 : Nat) (Y3 : Option Addr) (v3 : Nat), (((((w6.setCell ⟨Y, 0, none⟩ (.int .i64 s.ro)).setCell ⟨Y, 1, none⟩ (.slice N0 m n0)).setCell ⟨Y, 2, none⟩ (.slice N1 m n1)).setCell ⟨Y, 3, none⟩ (.slice N2 m n2)).setCell ⟨Y, 4, none⟩ (.slice N3 s.bd.length n3)).heap[Y]? = some (.cells #[.int .i64 s.ro, .slice Y0 m v0, .slice Y1 m v1, .slice Y2 m v2, .slice Y3 s.bd.length v3] 50 (0, 0)) ∧ StO (((((w6.setCell ⟨Y, 0, none⟩ (.int .i64 s.ro)).setCell ⟨Y, 1, none⟩ (.slice N0 m n0)).setCell ⟨Y, 2, none⟩ (.slice N1 m n1)).setCell ⟨Y, 3, none⟩ (.slice N2 m n2)).setCell ⟨Y, 4, none⟩ (.slice N3 s.bd.length n3)) lo hi (.agg #[.int .i64 s.ro, .slice Y0 m v0, .slice Y1 m v1, .slice Y2 m v2, .slice Y3 s.bd.length v3]) (macS s (k + 1)) ∧ (hi ≤ Y ∨ Y < lo) from ⟨_, _, N0, n0, N1, n1, N2, n2, N3, n3, (blk_set (blk_set (blk_set (blk_set (blk_set hY6 0 (.int .i64 s.ro)) 1 (.slice N0 m n0)) 2 (.slice N1 m n1)) 3 (.slice N2 m n2)) 4 (.slice N3 s.bd.length n3)), hN.wi hwi (Or.inr (by clear e1; omega)), Or.inr (by clear e1; omega)⟩)
    have hU2 := hid (show Uw w5 (((((w6.setCell ⟨Y, 0, none⟩ (.int .i64 s.ro)).setCell ⟨Y, 1, none⟩ (.slice N0 m n0)).setCell ⟨Y, 2, none⟩ (.slice N1 m n1)).setCell ⟨Y, 3, none⟩ (.slice N2 m n2)).setCell ⟨Y, 4, none⟩ (.slice N3 s.bd.length n3)) Y Y from (((((hU6.set Y 0 (.int .i64 s.ro) (Or.inl rfl)).set Y 1 (.slice N0 m n0) (Or.inl rfl)).set Y 2 (.slice N1 m n1) (Or.inl rfl)).set Y 3 (.slice N2 m n2) (Or.inl rfl)).set Y 4 (.slice N3 s.bd.length n3) (Or.inl rfl)))
    clear hN htick hY6 hwi hU6 hY b6 hU
    go_wp2
    go_roundw
    case rel => exact ⟨k + 1, hkk.out.1, by go_num, hST2, hU2⟩
    case measure => simp [intOf]; clear e1; omega
   ·have hk16 : k = 16 := by omega
    have t1 : decide ((k : Int) < 16) = false := decide_eq_false (by omega)
    have t2 : decide (k < 16) = false := decide_eq_false (by omega)
    rw [hk16] at hST
    have HK16 := hid hk16
    clear hk16
    obtain ⟨lo, hi, Y0, v0, Y1, v1, Y2, v2, Y3, v3, hY, hS, hd⟩ := hST.out
    have hU7 := hU.out
    have HY7 := hid hY
    have HS7 := hid hS
    have HB7 := hid (hU7.to HB5.out (by omega) (by omega))
    have J_g0 := hid (show wr.cell? ⟨w1.heap.size, 0, none⟩ = some (Value.int .i64 s.ro) from by rw [World.cell?_of_block (hU7.block w1.heap.size (by omega) (by omega) (by omega))]; exact K_g0.out)
    have J_g1 := hid (show wr.cell? ⟨w1.heap.size, 1, none⟩ = some (Value.slice X0 m y0) from by rw [World.cell?_of_block (hU7.block w1.heap.size (by omega) (by omega) (by omega))]; exact K_g1.out)
    have J_g2 := hid (show wr.cell? ⟨w1.heap.size, 2, none⟩ = some (Value.slice X1 m y1) from by rw [World.cell?_of_block (hU7.block w1.heap.size (by omega) (by omega) (by omega))]; exact K_g2.out)
    have J_g3 := hid (show wr.cell? ⟨w1.heap.size, 3, none⟩ = some (Value.slice X2 m y2) from by rw [World.cell?_of_block (hU7.block w1.heap.size (by omega) (by omega) (by omega))]; exact K_g3.out)
    have J_g4 := hid (show wr.cell? ⟨w1.heap.size, 4, none⟩ = some (Value.slice X3 s.bd.length y3) from by rw [World.cell?_of_block (hU7.block w1.heap.size (by omega) (by omega) (by omega))]; exact K_g4.out)
    have J_h0 := hid (show wr.cell? ⟨w3.heap.size, 0, none⟩ = some (Value.int .i64 s.ro) from by rw [World.cell?_of_block (hU7.block w3.heap.size (by omega) (by omega) (by omega))]; exact K_h0.out)
    have J_h1 := hid (show wr.cell? ⟨w3.heap.size, 1, none⟩ = some (Value.slice Z0 m z0) from by rw [World.cell?_of_block (hU7.block w3.heap.size (by omega) (by omega) (by omega))]; exact K_h1.out)
    have J_h2 := hid (show wr.cell? ⟨w3.heap.size, 2, none⟩ = some (Value.slice Z1 m z1) from by rw [World.cell?_of_block (hU7.block w3.heap.size (by omega) (by omega) (by omega))]; exact K_h2.out)
    have J_h3 := hid (show wr.cell? ⟨w3.heap.size, 3, none⟩ = some (Value.slice Z2 m z2) from by rw [World.cell?_of_block (hU7.block w3.heap.size (by omega) (by omega) (by omega))]; exact K_h3.out)
    have J_h4 := hid (show wr.cell? ⟨w3.heap.size, 4, none⟩ = some (Value.slice Z3 s.bd.length z3) from by rw [World.cell?_of_block (hU7.block w3.heap.size (by omega) (by omega) (by omega))]; exact K_h4.out)
    have J_k0 := hid ((blk_cell hY 0).trans (show _ = some (Value.int .i64 s.ro) from rfl))
    have J_k1 := hid ((blk_cell hY 1).trans (show _ = some (Value.slice Y0 m v0) from rfl))
    have J_k2 := hid ((blk_cell hY 2).trans (show _ = some (Value.slice Y1 m v1) from rfl))
    have J_k3 := hid ((blk_cell hY 3).trans (show _ = some (Value.slice Y2 m v2) from rfl))
    have J_k4 := hid ((blk_cell hY 4).trans (show _ = some (Value.slice Y3 s.bd.length v3) from rfl))
    have HQ7 := hid (HO5.out.wi (show Wi w5 wr Y (Y + 1) from ⟨hU7.os, hU7.tape, hU7.output, hU7.size, fun b hb hn => hU7.block b hb (by omega) (by omega)⟩) (Or.inl (by omega)))
    have HX7 := hid (HX5.out.wi (show Wi w5 wr Y (Y + 1) from ⟨hU7.os, hU7.tape, hU7.output, hU7.size, fun b hb hn => hU7.block b hb (by omega) (by omega)⟩) (Or.inl (by omega)))
    clear hST hU hU7 hY hS
    go_upto_region 13 with fail
    generalize wr = w7 at *
    obtain ⟨_, _, _, _, _, _, _, _, e7, q1⟩ := StR_m HQ7.out.r (HLEN.out 0)
    obtain ⟨_, _, _, _, _, _, _, _, e8, qx⟩ := StR_m HX7.out.r (HLEN.out 16)
    simp only [Value.agg.injEq, Array.mk.injEq, List.cons.injEq, and_true, true_and, Value.slice.injEq] at e7 e8
    obtain ⟨⟨rfl, rfl⟩, ⟨rfl, rfl⟩, ⟨rfl, rfl⟩, rfl, rfl⟩ := e7
    obtain ⟨⟨rfl, rfl⟩, ⟨rfl, rfl⟩, ⟨rfl, rfl⟩, rfl, rfl⟩ := e8
    have Q1 := hid q1
    have QX := hid qx
    clear q1 qx
    go_wp2
    go_loopw [7, 8] (fun v7 v8 wr => ∃ i : Nat, i ≤ m ∧ v8 = .int .i64 i ∧ v7 = .int .i64 (fsL s 16 i) ∧ Hid (Bw w7 wr)) (fun _ v8 _ => m - (intOf v8).toNat)
    case atStart => exact ⟨0, by omega, rfl, rfl, hid (Bw.refl _)⟩
    case round =>
     obtain ⟨i, hi, rfl, rfl, hW⟩ := hrel
     have g0 := pw_cell_below hW.out.out J_g0.out
     have g1 := pw_cell_below hW.out.out J_g1.out
     have g2 := pw_cell_below hW.out.out J_g2.out
     have g3 := pw_cell_below hW.out.out J_g3.out
     have g4 := pw_cell_below hW.out.out J_g4.out
     have h0 := pw_cell_below hW.out.out J_h0.out
     have h1 := pw_cell_below hW.out.out J_h1.out
     have h2 := pw_cell_below hW.out.out J_h2.out
     have h3 := pw_cell_below hW.out.out J_h3.out
     have h4 := pw_cell_below hW.out.out J_h4.out
     by_cases hlt2 : i < m
     ·have u1 : decide ((i : Int) < (m : Int)) = true := decide_eq_true (by omega)
      have e1 : IntKind.i64.wrap ((i : Int) + 1) = (i : Int) + 1 := i64w (by omega) (by omega)
      have hil : i < s.lv.length := by rw [HM.out.1]; exact hlt2
      have hmac := macS_ms HOK.out i hil 16
      have hr1 := fsum_range HOK.out i hil 16
      have hr2 : -160000000 ≤ fsL s 16 i ∧ fsL s 16 i ≤ 160000000 := by
       cases i with
       | zero => simp [fsL]
       | succ j => have := fsum_range HOK.out j (by clear e1; omega) 16; simp only [fsL]; clear e1; omega
      have hmv := (StF.of HOK.out).mv i hil
      have hmx := (StF.of (macS_ok HOK.out 16)).mv i (by rw [(HLEN.out 16).2.1]; exact hlt2)
      have hnx : fsL s 16 (i + 1) = fsum s i 16 := rfl
      have HNX := hid hnx
      have HLAST := hid (fsum_last HOK.out i hil)
      obtain ⟨a, ha⟩ : ∃ a, rd (macS s 16).ms (i : Int) = a := ⟨_, rfl⟩
      obtain ⟨b, hb2⟩ : ∃ b, rd s.ms (i : Int) = b := ⟨_, rfl⟩
      obtain ⟨la, hla⟩ : ∃ la, fsL s 16 i = la := ⟨_, rfl⟩
      obtain ⟨no, hno⟩ : ∃ no, fsum s i 16 = no := ⟨_, rfl⟩
      have HA := hid ha
      have HB2 := hid hb2
      have HNO := hid hno
      rw [ha, hb2, hla, hno] at hmac
      rw [hno] at hr1
      rw [hla] at hr2 ⊢
      rw [hb2] at hmv
      rw [ha] at hmx
      have e3 : IntKind.i64.wrap (b + la) = b + la := i64w (by clear e1; omega) (by clear e1; omega)
      have e4 : IntKind.i64.wrap (b + la - no) = a := by rw [hmac]; exact i64w (by clear e1 e3; omega) (by clear e1 e3; omega)
      have i0 : (0 : Int) ≤ (i : Int) := by clear e1 e3 e4; omega
      have i1 : (i : Int) < (m : Int) := by clear e1 e3 e4; omega
      have hkk := hid (show i + 1 ≤ m ∧ m - (i + 1) < m - i by clear e1 e3 e4; omega)
      have ta : (a != a) = false := by simp
      have HMAC := hid hmac
      clear ha hb2 hla hno hmac hnx
      by_cases hl : i + 1 < m
      ·have u2 : decide ((i : Int) + 1 < (m : Int)) = true := decide_eq_true (by clear e1 e3 e4; omega)
       go_wp2_with fail
       refine (impl_FluxSum _ s i _ (HQ7.out.r.to hW.out) HOK.out (by rw [HM.out.1]; exact hl)).mono ?_
       rintro e w8 ⟨rfl, b8⟩
       rw [HNO.out]
       replace g0 := pw_cell_below b8.out g0
       replace g1 := pw_cell_below b8.out g1
       replace g2 := pw_cell_below b8.out g2
       replace g3 := pw_cell_below b8.out g3
       replace g4 := pw_cell_below b8.out g4
       replace h0 := pw_cell_below b8.out h0
       replace h1 := pw_cell_below b8.out h1
       replace h2 := pw_cell_below b8.out h2
       replace h3 := pw_cell_below b8.out h3
       replace h4 := pw_cell_below b8.out h4
       have hW8 := hid (hW.out.trans b8)
       clear hW b8
       generalize w8 = w9 at *
       obtain ⟨ad1, rfl, x1⟩ := (Q1.out.to hW8.out).nat i hlt2
       obtain ⟨ad2, rfl, x2⟩ := (QX.out.to hW8.out).nat i hlt2
       rw [HB2.out] at x1
       rw [HA.out] at x2
       go_upto_region 19 with fail
       go_quiet (fail)
       have bQ : Bw w9 (w9.drewN nq) := Bw.drawn ⟨⟨nq, rfl⟩⟩
       have hW9 := hid (hW8.out.trans bQ)
       clear hW8 bQ x1 x2 g0 g1 g2 g3 g4 h0 h1 h2 h3 h4
       go_wp2
       go_roundw
       case rel => exact ⟨i + 1, hkk.out.1, by go_num, congrArg (Value.int .i64) (HNX.out.trans HNO.out).symm, hW9⟩
       case measure => simp [intOf]; clear e1 e3 e4; omega
      ·have u2 : decide ((i : Int) + 1 < (m : Int)) = false := decide_eq_false (by clear e1 e3 e4; omega)
       have hz : no = 0 := by rw [← HNO.out]; exact HLAST.out (by rw [HM.out.1]; exact hl) 16
       have hba : b + la = a := by have := HMAC.out; clear e1 e3 e4; omega
       rw [hba] at e3
       have e6 : IntKind.i64.wrap (b + la) = a := by rw [hba]; exact e3
       clear hba e4
       have e4 := e3
       subst hz
       have hW8 := hW
       clear hW
       generalize wr = w9 at *
       obtain ⟨ad1, rfl, x1⟩ := (Q1.out.to hW8.out).nat i hlt2
       obtain ⟨ad2, rfl, x2⟩ := (QX.out.to hW8.out).nat i hlt2
       rw [HB2.out] at x1
       rw [HA.out] at x2
       go_upto_region 19 with fail
       go_quiet (fail)
       have bQ : Bw w9 (w9.drewN nq) := Bw.drawn ⟨⟨nq, rfl⟩⟩
       have hW9 := hid (hW8.out.trans bQ)
       clear hW8 bQ x1 x2 g0 g1 g2 g3 g4 h0 h1 h2 h3 h4
       go_wp2
       go_roundw
       case rel => exact ⟨i + 1, hkk.out.1, by go_num, congrArg (Value.int .i64) (HNX.out.trans HNO.out).symm, hW9⟩
       case measure => simp [intOf]; clear e1 e3 e4; omega
     ·obtain rfl : m = i := by omega
      have u1 : decide ((m : Int) < (m : Int)) = false := decide_eq_false (by omega)
      have k0 := pw_cell_below hW.out.out J_k0.out
      have k1 := pw_cell_below hW.out.out J_k1.out
      have k2 := pw_cell_below hW.out.out J_k2.out
      have k3 := pw_cell_below hW.out.out J_k3.out
      have k4 := pw_cell_below hW.out.out J_k4.out
      go_wp2_with fail
      refine (spec_SameState_yes _ _ (macS s 16) _ (HX7.out.r.to hW.out) (HS7.out.r.to hW.out)).mono ?_
      rintro e w8 ⟨rfl, b8⟩
      have hB8 := (HB7.out.trans hW.out).trans b8
      go_wp2
      go_ret
      exact ⟨rfl, hB8⟩
 ·have t1 : decide (1048576 < (n : Int)) = true := decide_eq_true (by omega)
  have T1 := hid t1
  clear t1
  go_enter Try.func5, Try.ntmps5
  go_wp2_with fail
  refine (toBool (lawbig _ _ _ _) T1.out).mono ?_
  rintro e w1 ⟨rfl, rfl⟩
  go_wp2
  go_ret
  exact ⟨rfl, Bw.refl _⟩
end Go.Proofs.Ytenijmalcchciaa.U
