
/- The law FnEventLists returns true at all codes. -/
import Derived.Test.YtkendhkaheoinaaEj
import Derived.Test.YtkendhkaheoinaaG24
import Derived.Test.YtkendhkaheoinaaEg
import Derived.Test.YtkendhkaheoinaaG13
import Derived.Test.YtkendhkaheoinaaG10
import Derived.Test.YtkendhkaheoinaaG8
import Derived.Deep.CutBlock
set_option linter.unusedVariables false
set_option linter.unusedSimpArgs false
namespace Go.Proofs.Ytkendhkaheoinaa.U
open Go.RowKit Go.Lib Go.Proofs.YtkendhkaheoinaaW.PrintWords
open Go.Proofs.YtkendhkaheoinaaW.PrintLast Go.Proofs.YtkendhkaheoinaaW.PrintMore
theorem StR_mL {w : World} {x : Value} {s z : Sta} {m : Nat} (h : StR w x z) (e : z.ro = s.ro ∧ z.lv.length = m ∧ z.ms.length = m ∧ z.ts.length = m ∧ z.bd.length = s.bd.length) :
  ∃ (A0 : Option Addr) (c0 : Nat) (A1 : Option Addr) (c1 : Nat) (A2 : Option Addr) (c2 : Nat) (A3 : Option Addr) (c3 : Nat), x = .agg #[.int .i64 s.ro, .slice A0 m c0, .slice A1 m c1, .slice A2 m c2, .slice A3 s.bd.length c3] ∧ RI w A1 m z.ms := by
 obtain ⟨A0, c0, A1, c1, A2, c2, A3, c3, rfl, r0, r1, r2, r3⟩ := h
 obtain ⟨e0, e1, e2, e3, e4⟩ := e
 rw [e0, e1, e2, e3, e4]
 rw [e2] at r1
 exact ⟨_, _, _, _, _, _, _, _, rfl, r1⟩
set_option maxHeartbeats 8000000 in
set_option maxRecDepth 100000 in
theorem law_EventLists (A : Option Addr) (n c : Nat) (l : List Int) (w : World) (r : ReadsInt w .u8 A n l) (wf : ∀ x ∈ l, 0 ≤ x ∧ x ≤ 255) :
  Calls Try.prog 4 #[.slice A n c] w fun e w' => e = .returned (.bool true) ∧ Bw w w' := by
 have WF := hid wf
 clear wf
 by_cases hb : n ≤ 1048576
 ·have t1 : decide (1048576 < (n : Int)) = false := decide_eq_false (by omega)
  have T1 := hid t1
  clear t1
  go_enter Try.func4, Try.ntmps4
  go_wp2_with fail
  refine (toBool (lawbig _ _ _ _) T1.out).mono ?_
  rintro e w1 ⟨rfl, rfl⟩
  go_wp2_with fail
  refine (DrawState A n c l _ r WF.out hb).mono ?_
  rintro e w1 ⟨x, s, rfl, hs, hO, b1⟩
  obtain ⟨m, hm⟩ : ∃ m, s.lv.length = m := ⟨_, rfl⟩
  have hms : s.ms.length = m := by rw [hs.cs.lm, hm]
  have hts : s.ts.length = m := by rw [hs.cs.lt, hm]
  have hm1 : 1 ≤ m ∧ m ≤ 48 := by
   have h1 := hs.ok
   simp only [staOk, isBal, Bool.and_eq_true] at h1
   have := meshOk_len h1.1.1
   have := hs.n
   omega
  have HOK := hid hs.ok
  have HLEN := hid (fun k => by have h := macS_len hs.ok k; rw [hm] at h; exact (show (macS s k).ro = s.ro ∧ (macS s k).lv.length = m ∧ (macS s k).ms.length = m ∧ (macS s k).ts.length = m ∧ (macS s k).bd.length = s.bd.length from ⟨(macS_same s k).1, h⟩))
  have HM := hid (show s.lv.length = m ∧ s.ms.length = m ∧ s.ts.length = m from ⟨hm, hms, hts⟩)
  obtain ⟨X0, y0, X1, y1, X2, y2, X3, y3, rfl, q1⟩ := StR_mL hO.r (HLEN.out 0)
  clear hs hm hms hts
  have b2 := Bw.box1 w1 (.cells #[.int .i64 s.ro, .slice X0 m y0, .slice X1 m y1, .slice X2 m y2, .slice X3 s.bd.length y3] 29)
  have g0 := box_cell (Bw.refl (w1.alloc (.cells #[.int .i64 s.ro, .slice X0 m y0, .slice X1 m y1, .slice X2 m y2, .slice X3 s.bd.length y3] 29))) 0
  have g1 := box_cell (Bw.refl (w1.alloc (.cells #[.int .i64 s.ro, .slice X0 m y0, .slice X1 m y1, .slice X2 m y2, .slice X3 s.bd.length y3] 29))) 1
  have g2 := box_cell (Bw.refl (w1.alloc (.cells #[.int .i64 s.ro, .slice X0 m y0, .slice X1 m y1, .slice X2 m y2, .slice X3 s.bd.length y3] 29))) 2
  have g3 := box_cell (Bw.refl (w1.alloc (.cells #[.int .i64 s.ro, .slice X0 m y0, .slice X1 m y1, .slice X2 m y2, .slice X3 s.bd.length y3] 29))) 3
  have g4 := box_cell (Bw.refl (w1.alloc (.cells #[.int .i64 s.ro, .slice X0 m y0, .slice X1 m y1, .slice X2 m y2, .slice X3 s.bd.length y3] 29))) 4
  simp only [List.getElem?_toArray, List.getElem?_cons_zero, List.getElem?_cons_succ] at g0 g1 g2 g3 g4
  have hB := b1.trans b2
  have hs1 : w.heap.size ≤ w1.heap.size := b1.size
  have hz1 : (w1.alloc (.cells #[.int .i64 s.ro, .slice X0 m y0, .slice X1 m y1, .slice X2 m y2, .slice X3 s.bd.length y3] 29)).heap.size = w1.heap.size + 1 := by simp
  have HZ1 := hid hz1
  replace hO := hO.to b2
  replace q1 := q1.to b2
  clear b1 b2 hz1
  have HMO := hid (show meshOk s.ro s.lv = true by have h1 := HOK.out; simp only [staOk, isBal, Bool.and_eq_true] at h1; exact h1.1.1)
  have HLV := hid (show ∀ i, i < s.lv.length → 0 ≤ (gc s.lv i).l ∧ (gc s.lv i).l ≤ 4 from fun i hi => ((StG.of HOK.out).f.lv i hi).1)
  have HM1 := hid (show 1 ≤ m ∧ m ≤ 128 from ⟨hm1.1, by omega⟩)
  have HID := hid (show IdR (w1.alloc (.cells #[.int .i64 s.ro, .slice X0 m y0, .slice X1 m y1, .slice X2 m y2, .slice X3 s.bd.length y3] 29)) X0 m s.lv from by
   obtain ⟨_, _, _, _, _, _, _, _, e7, qr, _⟩ := hO.r
   simp only [Value.agg.injEq, Array.mk.injEq, List.cons.injEq, and_true, true_and, Value.slice.injEq] at e7
   obtain ⟨⟨rfl, _, rfl⟩, _⟩ := e7
   rw [HM.out.1] at qr
   exact qr)
  go_wp2_with fail
  generalize (w1.alloc (.cells #[.int .i64 s.ro, .slice X0 m y0, .slice X1 m y1, .slice X2 m y2, .slice X3 s.bd.length y3] 29)) = w2 at *
  refine (DrawPlaces A n c l _ (r.below hB.out) WF.out hb).mono ?_
  rintro e w3 ⟨P, m2, pc, ps, rfl, hp, ⟨rfl, hpb⟩, b3⟩
  have hpl := hp.len
  have hp0 : ∀ i : Nat, i < 12 → 0 ≤ rd ps (i : Int) ∧ rd ps (i : Int) < 10000 := fun i hi => hpb _ (by
   rw [rd_nat, List.getD_eq_getElem?_getD, List.getElem?_eq_getElem (by omega)]
   exact List.getElem_mem (by omega))
  have hq0 : 0 ≤ rd ps 0 ∧ rd ps 0 < 10000 := hp0 0 (by omega)
  have hq1 : 0 ≤ rd ps 1 ∧ rd ps 1 < 10000 := hp0 1 (by omega)
  obtain ⟨ap, rfl, hcp⟩ := hp.ri.nat 0 (by omega)
  obtain ⟨_, ea, hcp1⟩ := hp.ri.nat 1 (by omega)
  obtain rfl := Option.some.inj ea
  have hcp0 : w3.cell? ap = some (.int .i64 (rd ps 0)) := hcp
  replace hcp1 : w3.cell? ⟨ap.block, ap.off + 1, none⟩ = some (.int .i64 (rd ps 1)) := by rw [add_pos _ _ (by omega)] at hcp1; exact hcp1
  clear hcp hp0 hpb hp ea hpl
  obtain ⟨p0, hp0⟩ : ∃ p, rd ps 0 = p := ⟨_, rfl⟩
  obtain ⟨p1, hp1⟩ : ∃ p, rd ps 1 = p := ⟨_, rfl⟩
  rw [hp0] at hcp0 hq0
  rw [hp1] at hcp1 hq1
  clear hp0 hp1
  replace g0 := pw_cell_below b3.out g0
  replace g1 := pw_cell_below b3.out g1
  replace g2 := pw_cell_below b3.out g2
  replace g3 := pw_cell_below b3.out g3
  replace g4 := pw_cell_below b3.out g4
  replace hB := hB.trans b3
  replace hO := hO.to b3
  have HID3 := hid (HID.out.to b3)
  clear HID b3 q1
  obtain ⟨t0, ht0, ht1⟩ : ∃ i : Nat, Int.tmod p0 15 = (i : Int) ∧ i < 15 := by
   refine ⟨(Int.tmod p0 15).toNat, ?_, ?_⟩
   ·rw [Int.tmod_eq_emod_of_nonneg hq0.1]
    have := Int.emod_nonneg p0 (show (15 : Int) ≠ 0 by omega)
    omega
   ·rw [Int.tmod_eq_emod_of_nonneg hq0.1]
    have h1 := Int.emod_nonneg p0 (show (15 : Int) ≠ 0 by omega)
    have h2 := Int.emod_lt_of_pos p0 (show (0 : Int) < 15 by omega)
    omega
  obtain ⟨lev, hl0, hl1⟩ : ∃ i : Nat, Int.tmod p1 5 = (i : Int) ∧ i < 5 := by
   refine ⟨(Int.tmod p1 5).toNat, ?_, ?_⟩
   ·rw [Int.tmod_eq_emod_of_nonneg hq1.1]
    have := Int.emod_nonneg p1 (show (5 : Int) ≠ 0 by omega)
    omega
   ·rw [Int.tmod_eq_emod_of_nonneg hq1.1]
    have h1 := Int.emod_nonneg p1 (show (5 : Int) ≠ 0 by omega)
    have h2 := Int.emod_lt_of_pos p1 (show (0 : Int) < 5 by omega)
    omega
  obtain ⟨t, hteq⟩ : ∃ t : Nat, t = t0 + 1 := ⟨_, rfl⟩
  have ew1 : IntKind.i64.wrap (1 + (t0 : Int)) = (t : Int) := by rw [i64w (by omega) (by omega)]; omega
  have HT := hid (show 1 ≤ t ∧ t ≤ 15 by clear ew1; omega)
  have HLEV := hid hl1
  clear hteq ht1 hl1
  go_wp2_with fail
  refine (spec_EventsOf s.ro X0 m y0 s.lv _ HID3.out HMO.out HM1.out.1 HM1.out.2).mono ?_
  rintro e w4 ⟨v, rfl, hE, b4⟩
  obtain ⟨k, hk⟩ : ∃ k, (evs s.lv 0 16).length = k := ⟨_, rfl⟩
  obtain ⟨kt, hkt⟩ : ∃ kt, (evs s.lv 0 t).length = kt := ⟨_, rfl⟩
  have hkk := evs_len s.lv 0 16
  rw [HM.out.1, hk] at hkk
  have hk3 : k ≤ 4096 := by clear ew1; omega
  have hap := evs_append s.lv t 16 (by have := HT.out; omega)
  have hkt2 : kt ≤ k := by rw [← hk, ← hkt, hap, List.length_append]; exact Nat.le_add_right _ _
  have HK := hid (show (evs s.lv 0 16).length = k ∧ (evs s.lv 0 t).length = kt ∧ k ≤ 4096 ∧ kt ≤ k from ⟨hk, hkt, hk3, hkt2⟩)
  have HTL := hid (show ∀ j, j < kt → (ge (evs s.lv 0 16) j).q < (t : Int) from fun j hj => by
   rw [hap, ge_left (by rw [hkt]; exact hj)]
   exact (evs_mem (ge_mem (by rw [hkt]; exact hj))).1.2)
  have HTR := hid (show ∀ j, kt ≤ j → j < k → (t : Int) ≤ (ge (evs s.lv 0 16) j).q from fun j hj hjk => by
   rw [hap]
   exact (evs_mem (ge_right (by rw [hkt]; exact hj) (by rw [← hap, hk]; exact hjk))).1.1)
  have HTK := hid (show (evs s.lv 0 16).take kt = evs s.lv 0 t ∧ (evs s.lv 0 16).drop kt = evs s.lv t 16 by
   rw [hap, ← hkt]
   exact ⟨List.take_left, List.drop_left⟩)
  rw [hk] at hE
  obtain ⟨AE, cE, rfl, hcE, re⟩ := hE.reads
  have hev : EvR w4 AE k (evs s.lv 0 16) := ⟨re⟩
  replace g0 := pw_cell_below b4.out g0
  replace g1 := pw_cell_below b4.out g1
  replace g2 := pw_cell_below b4.out g2
  replace g3 := pw_cell_below b4.out g3
  replace g4 := pw_cell_below b4.out g4
  replace hcp0 := pw_cell_below b4.out hcp0
  replace hcp1 := pw_cell_below b4.out hcp1
  replace hB := hB.trans b4
  replace hO := hO.to b4
  have HID4 := hid (HID3.out.to b4)
  have HEV := hid hev
  clear hE re hkk hk3 hkt2 hk hkt hap HID3 b4 hev
  go_upto_block 0 with fail
  go_cut [7] from 27 to 41 (fun v7 wx => v7 = .int .i64 (kt : Int) ∧ wx = w4)
  case first =>
   go_wp2
   go_loopw [7] (fun v7 wr => ∃ j : Nat, j ≤ kt ∧ v7 = .int .i64 j ∧ Hid (w4 = wr ∨ False)) (fun v7 _ => kt - (intOf v7).toNat)
   case atStart => exact ⟨0, by clear ew1; omega, rfl, hid (Or.inl (by first | rfl | trivial))⟩
   case round =>
    obtain ⟨j, hj, rfl, hX⟩ := hrel
    obtain rfl : w4 = wr := by rcases hX.out with h | h; exact h; exact h.elim
    clear ew1
    have e1 : IntKind.i64.wrap ((j : Int) + 1) = (j : Int) + 1 := i64w (by have := HK.out.2.2; omega) (by have := HK.out.2.2; omega)
    by_cases hjk : j < k
    ·have u1 : decide ((j : Int) < (k : Int)) = true := decide_eq_true (by clear e1; omega)
     have i0 : (0 : Int) ≤ (j : Int) := by clear e1; omega
     have i1 : (j : Int) < (k : Int) := by clear e1; omega
     obtain ⟨ad, rfl, x1, -⟩ := HEV.out.at j hjk
     obtain ⟨q, hq⟩ : ∃ q, (ge (evs s.lv 0 16) j).q = q := ⟨_, rfl⟩
     rw [hq] at x1
     by_cases hjt : j < kt
     ·have u2 : decide (q < (t : Int)) = true := decide_eq_true (by rw [← hq]; exact HTL.out j hjt)
      have hkk := hid (show j + 1 ≤ kt ∧ kt - (j + 1) < kt - j by clear e1; omega)
      clear hq
      go_wp2
      go_roundw
      case rel => exact ⟨j + 1, hkk.out.1, by go_num, hid (Or.inl (by first | rfl | trivial))⟩
      case measure => simp [intOf]; clear e1; omega
     ·obtain rfl : j = kt := by clear e1; omega
      have u2 : decide (q < (t : Int)) = false := decide_eq_false (by have := HTR.out j (Nat.le_refl _) hjk; rw [hq] at this; clear e1; omega)
      clear hq
      go_wp2
      go_meet
      case rel => exact ⟨rfl, rfl⟩
    ·have hjt : j = kt := by have := HK.out.2.2.2; clear e1; omega
     have u1 : decide ((j : Int) < (k : Int)) = false := decide_eq_false (by clear e1; omega)
     go_wp2
     go_meet
     case rel => exact ⟨by first | rfl | rw [hjt], rfl⟩
  case rest =>
   obtain ⟨rfl, rfl⟩ := hcut
   generalize wc = w5 at *
   obtain ⟨hs1, hr1⟩ := EvR.toN AE k cE (evs s.lv 0 16) hcE kt HK.out.2.2.2
   obtain ⟨AD, cD, hs2, hr2⟩ := EvR.fromN AE k cE (evs s.lv 0 16) hcE kt HK.out.2.2.2
   have hE1 := hr1 _ HEV.out
   rw [HTK.out.1] at hE1
   have hE2 := hr2 _ HEV.out
   rw [HTK.out.2] at hE2
   have HE1 := hid hE1
   have HRA := hid (runA_same s 0 HOK.out t)
   have HE2 := hid (show EvR w5 AD (k - kt) (evs (runA s 0 t).lv t 16) by rw [HRA.out.2.1]; exact hE2)
   have HRR := hid (show runA (runA s 0 t) t 16 = macS s 16 by rw [runA_split s t 16 (by have := HT.out; omega), runA_macS])
   have HRS := hid (show runA s 0 16 = macS s 16 from runA_macS s 16)
   have HO := hid hO
   have HB := hid hB
   have HN16 := hid (show kt ≤ 4096 ∧ k - kt ≤ 4096 ∧ t ≤ 1000 from ⟨by have := HK.out; clear ew1; omega, by have := HK.out; clear ew1; omega, by have := HT.out; clear ew1; omega⟩)
   have i0 : (0 : Int) ≤ (kt : Int) := by clear ew1; omega
   have i1 : (kt : Int) ≤ (k : Int) := by have := HK.out; clear ew1; omega
   have K_g0 := hid g0
   have K_g1 := hid g1
   have K_g2 := hid g2
   have K_g3 := hid g3
   have K_g4 := hid g4
   have K_hcp0 := hid hcp0
   have K_hcp1 := hid hcp1
   clear hE1 hE2 hr1 hr2 hO hB hcE
   go_upto_region 10 with fail
   go_cut [8] from 42 to 51 (fun v8 wx => ∃ (G lo hi : Nat) (Z0 : Option Addr) (z0 : Nat) (Z1 : Option Addr) (z1 : Nat) (Z2 : Option Addr) (z2 : Nat) (Z3 : Option Addr) (z3 : Nat), v8 = .pointer (some ⟨G, 0, none⟩) ∧ wx.heap[G]? = some (.cells #[.int .i64 s.ro, .slice Z0 m z0, .slice Z1 m z1, .slice Z2 m z2, .slice Z3 s.bd.length z3] 29 (0, 0)) ∧ StO wx lo hi (.agg #[.int .i64 s.ro, .slice Z0 m z0, .slice Z1 m z1, .slice Z2 m z2, .slice Z3 s.bd.length z3]) (macS s 16) ∧ Bw w5 wx)
   case first =>
    have bD := Bw.drawn (a := w5) ⟨⟨1, rfl⟩⟩
    refine start_ (n := 11) (S := fun w' => w'.cell? ⟨w1.heap.size, 0, none⟩ = some (.int .i64 s.ro) ∧ w'.cell? ⟨w1.heap.size, 1, none⟩ = some (.slice X0 m y0) ∧ w'.cell? ⟨w1.heap.size, 2, none⟩ = some (.slice X1 m y1) ∧ w'.cell? ⟨w1.heap.size, 3, none⟩ = some (.slice X2 m y2) ∧ w'.cell? ⟨w1.heap.size, 4, none⟩ = some (.slice X3 s.bd.length y3)) (ds := [10]) #[false, false, false, false, false, false, false, false, false, false, false] (by kernel_rfl) rfl rfl ⟨g0, g1, g2, g3, g4⟩ (fun hHeld => ?_)
    refine tq_ (i := 0) (N := (some 42)) (v := ?_) (a' := ?_) rfl rfl (by kernel_rfl) (fun _ _ _ h => h) (Or.inl ⟨by rfl, ?_⟩) hHeld ?_ ?_
    rotate_left; (rintro w' ⟨s0, s1, s2, s3, s4⟩; go_simp; with_reducible rfl); rotate_left; (simp only [Act.put, s1_, s2_, s3_, i64_w, i32_w]; rfl)
    refine pq_ (i := 1) (N := (some 43)) (v := ?_) (a' := ?_) rfl rfl (by kernel_rfl) (fun _ _ _ h => h) (Or.inl ⟨by rfl, ?_⟩) ?_ ?_
    rotate_left; (intro w'; go_simp; with_reducible rfl); rotate_left; (simp only [Act.put, s1_, s2_, s3_, i64_w, i32_w]; rfl)
    refine pq_ (i := 2) (N := (some 44)) (v := ?_) (a' := ?_) rfl rfl (by kernel_rfl) (fun _ _ _ h => h) (Or.inl ⟨by rfl, ?_⟩) ?_ ?_
    rotate_left; (intro w'; go_simp; with_reducible rfl); rotate_left; (simp only [Act.put, s1_, s2_, s3_, i64_w, i32_w]; rfl)
    refine pq_ (i := 3) (N := (some 45)) (v := ?_) (a' := ?_) rfl rfl (by kernel_rfl) (fun _ _ _ h => h) (Or.inl ⟨by rfl, ?_⟩) ?_ ?_
    rotate_left; (intro w'; go_simp; with_reducible rfl); rotate_left; (simp only [Act.put, s1_, s2_, s3_, i64_w, i32_w]; rfl)
    refine pq_ (i := 5) (N := (some 47)) (v := ?_) (a' := ?_) rfl rfl (by kernel_rfl) (fun _ _ _ h => h) (Or.inl ⟨by rfl, ?_⟩) ?_ ?_
    rotate_left; (intro w'; go_simp; with_reducible rfl); rotate_left; (simp only [Act.put, s1_, s2_, s3_, i64_w, i32_w]; rfl)
    refine pq_ (i := 6) (N := (some 48)) (v := ?_) (a' := ?_) rfl rfl (by kernel_rfl) (fun _ _ _ h => h) (Or.inl ⟨by rfl, ?_⟩) ?_ ?_
    rotate_left; (intro w'; go_simp; with_reducible rfl); rotate_left; (simp only [Act.put, s1_, s2_, s3_, i64_w, i32_w]; rfl)
    refine pq_ (i := 7) (N := (some 49)) (v := ?_) (a' := ?_) rfl rfl (by kernel_rfl) (fun _ _ _ h => h) (Or.inl ⟨by rfl, ?_⟩) ?_ ?_
    rotate_left; (intro w'; go_simp; with_reducible rfl); rotate_left; (simp only [Act.put, s1_, s2_, s3_, i64_w, i32_w]; rfl)
    refine two_ (i := 4) (j := 9) (Ni := some 46) (Nj := some 8) #[true, true, true, true, true, true, true, true, false, false, false] #[true, true, true, true, false, true, true, true, false, true, false] rfl rfl rfl rfl (by kernel_rfl) (by decide) (by decide) (fun K hK => ?_) (fun K hK => ?_)
    ·refine goes_ Try.func9 (by kernel_rfl) rfl #[.agg #[.int .i64 s.ro, .slice X0 m y0, .slice X1 m y1, .slice X2 m y2, .slice X3 s.bd.length y3], .slice AE kt cE] (by rfl) rfl rfl (by (try simp only [List.map_toArray, List.map_cons, List.map_nil]); first | done | rfl) ?_
     refine (impl_RunEvents _ s 0 t AE kt cE _ (HO.out.r.to bD) (HE1.out.to bD) HN16.out.1 HN16.out.2.2 HOK.out).mono ?_
     rintro e w1_ ⟨va, rfl, ha, q1_⟩
     refine ⟨_, rfl, ?_⟩
     have b1_ := bD.trans q1_
     have HA := hid ha
     clear ha
     refine hK.out _ _ ⟨pw_cell_below b1_.out g0, pw_cell_below b1_.out g1, pw_cell_below b1_.out g2, pw_cell_below b1_.out g3, pw_cell_below b1_.out g4⟩ (fun hHeld => ?_)
     clear hK K; refine norm_ (a' := ?_) ?_ ?_; rotate_left; (show Act.put _ (some 46) _ = _; simp only [Act.put, s1_, s2_, s3_, i64_w, i32_w]; rfl)
     refine two_ (i := 8) (j := 9) (Ni := some 50) (Nj := some 8) #[true, true, true, true, true, true, true, true, true, false, false] #[true, true, true, true, true, true, true, true, false, true, false] rfl rfl rfl rfl (by kernel_rfl) (by decide) (by decide) (fun K hK => ?_) (fun K hK => ?_)
     ·refine goes_ Try.func9 (by kernel_rfl) rfl #[va, .slice AD (k - kt) cD] (by rfl) rfl rfl (by (try simp only [List.map_toArray, List.map_cons, List.map_nil]); first | done | rfl) ?_
      refine (impl_RunEvents _ (runA s 0 t) t 16 AD (k - kt) cD _ HA.out.r (HE2.out.to b1_) HN16.out.2.1 (by decide) HRA.out.2.2.2).mono ?_
      rintro e w2_ ⟨vb, rfl, hx, q2_⟩
      refine ⟨_, rfl, ?_⟩
      rw [HRR.out] at hx
      obtain ⟨Z0, z0, Z1, z1, Z2, z2, Z3, z3, rfl, _⟩ := StR_mL hx.r (HLEN.out 16)
      have b2_ := b1_.trans q2_
      have HX := hid (show ∃ lo hi, StO _ lo hi (.agg #[.int .i64 s.ro, .slice Z0 m z0, .slice Z1 m z1, .slice Z2 m z2, .slice Z3 s.bd.length z3]) (macS s 16) ∧ hi ≤ w2_.heap.size from ⟨_, _, hx, Nat.le_refl _⟩)
      clear hx
      refine hK.out _ _ ⟨pw_cell_below b2_.out g0, pw_cell_below b2_.out g1, pw_cell_below b2_.out g2, pw_cell_below b2_.out g3, pw_cell_below b2_.out g4⟩ (fun hHeld => ?_)
      clear hK K; refine norm_ (a' := ?_) ?_ ?_; rotate_left; (show Act.put _ (some 50) _ = _; simp only [Act.put, s1_, s2_, s3_, i64_w, i32_w]; rfl)
      refine one_ (i := 9) (N := (some 8)) #[true, true, true, true, true, true, true, true, true, true, false] rfl rfl (by kernel_rfl) (by decide) (fun K hK => ?_)
      refine box_step ?hg (N := 8) ?hd (cs := #[.int .i64 0, .slice none 0 0, .slice none 0 0, .slice none 0 0, .slice none 0 0]) (t := 29) ?hr ?_; (case hd => rfl); (case hg => rfl); (case hr => first | (go_simp; done) | (go_simp; rfl))
      intro G hG w3_ hbox hb3_
      have HG0 := hid hG
      have b3_ := b2_.trans ⟨hb3_⟩
      have HGE := hid (show w5.heap.size ≤ G by have := b2_.size; first | omega | (simp at hG; omega))
      clear hG
      replace HX := hid (show ∃ lo hi, StO _ lo hi (.agg #[.int .i64 s.ro, .slice Z0 m z0, .slice Z1 m z1, .slice Z2 m z2, .slice Z3 s.bd.length z3]) (macS s 16) ∧ hi ≤ G from by obtain ⟨lo, hi, h, h2⟩ := HX.out; have hG := HG0.out; exact ⟨lo, hi, h.to ⟨hb3_⟩, by first | (rw [hG]; exact h2) | (simp at hG; omega) | omega⟩)
      refine hK.out _ _ ⟨pw_cell_below b3_.out g0, pw_cell_below b3_.out g1, pw_cell_below b3_.out g2, pw_cell_below b3_.out g3, pw_cell_below b3_.out g4⟩ (fun hHeld => ?_)
      clear hK K; refine norm_ (a' := ?_) ?_ ?_; rotate_left; (show Act.put _ (some 8) _ = _; simp only [Act.put, s1_, s2_, s3_, i64_w, i32_w]; rfl)
      obtain ⟨lo, hi, hx, hd⟩ := HX.out
      have s0 := (blk_cell hbox 0).trans (show _ = some (Value.int .i64 0) from rfl)
      have f0 := blk_frozen hbox 0
      have s1 := (blk_cell hbox 1).trans (show _ = some (Value.slice none 0 0) from rfl)
      have f1 := blk_frozen hbox 1
      have s2 := (blk_cell hbox 2).trans (show _ = some (Value.slice none 0 0) from rfl)
      have f2 := blk_frozen hbox 2
      have s3 := (blk_cell hbox 3).trans (show _ = some (Value.slice none 0 0) from rfl)
      have f3 := blk_frozen hbox 3
      have s4 := (blk_cell hbox 4).trans (show _ = some (Value.slice none 0 0) from rfl)
      have f4 := blk_frozen hbox 4
      have hblk := hid (blk_set (blk_set (blk_set (blk_set (blk_set hbox 0 (.int .i64 s.ro)) 1 (.slice Z0 m z0)) 2 (.slice Z1 m z1)) 3 (.slice Z2 m z2)) 4 (.slice Z3 s.bd.length z3))
      have hwi := (((((Wi.refl w3_ _ _).trans (Wi.set _ G 0 (.int .i64 s.ro))).trans (Wi.set _ G 1 (.slice Z0 m z0))).trans (Wi.set _ G 2 (.slice Z1 m z1))).trans (Wi.set _ G 3 (.slice Z2 m z2))).trans (Wi.set _ G 4 (.slice Z3 s.bd.length z3))
      have hfin := hid (And.intro (hx.wi hwi (by omega)) (b3_.then_wi hwi (by have := HGE.out; omega)))
      clear hx hbox hwi
      refine last_ (i := 10) (N := none) #[true, true, true, true, true, true, true, true, true, true, true] rfl rfl (by kernel_rfl) (by decide) (fun K hK => ?_)
      refine skip_ (w1 := ?_) (by rfl) rfl ?_ ?_
      rotate_left
      ·go_simp
       rfl
      refine hK.out _ _ ?_
      clear hK K
      refine done_ (by kernel_rfl) ?_
      go_wp2
      go_meet
      case rel => exact ⟨G, lo, hi, Z0, z0, Z1, z1, Z2, z2, Z3, z3, rfl, hblk.out, hfin.out.1, hfin.out.2⟩
     ·refine box_step ?hg (N := 8) ?hd (cs := #[.int .i64 0, .slice none 0 0, .slice none 0 0, .slice none 0 0, .slice none 0 0]) (t := 29) ?hr ?_; (case hd => rfl); (case hg => rfl); (case hr => first | (go_simp; done) | (go_simp; rfl))
      intro G hG w4_ hbox hb4_
      have HG0 := hid hG
      have b4_ := b1_.trans ⟨hb4_⟩
      have HGE := hid (show w5.heap.size ≤ G by have := b1_.size; first | omega | (simp at hG; omega))
      clear hG
      replace HA := hid (HA.out.to ⟨hb4_⟩)
      refine hK.out _ _ ⟨pw_cell_below b4_.out g0, pw_cell_below b4_.out g1, pw_cell_below b4_.out g2, pw_cell_below b4_.out g3, pw_cell_below b4_.out g4⟩ (fun hHeld => ?_)
      clear hK K; refine norm_ (a' := ?_) ?_ ?_; rotate_left; (show Act.put _ (some 8) _ = _; simp only [Act.put, s1_, s2_, s3_, i64_w, i32_w]; rfl)
      refine one_ (i := 8) (N := (some 50)) #[true, true, true, true, true, true, true, true, true, true, false] rfl rfl (by kernel_rfl) (by decide) (fun K hK => ?_)
      refine goes_ Try.func9 (by kernel_rfl) rfl #[va, .slice AD (k - kt) cD] (by rfl) rfl rfl (by (try simp only [List.map_toArray, List.map_cons, List.map_nil]); first | done | rfl) ?_
      refine (impl_RunEvents _ (runA s 0 t) t 16 AD (k - kt) cD _ HA.out.r (HE2.out.to b4_) HN16.out.2.1 (by decide) HRA.out.2.2.2).mono ?_
      rintro e w5_ ⟨vb, rfl, hx, q5_⟩
      refine ⟨_, rfl, ?_⟩
      rw [HRR.out] at hx
      obtain ⟨Z0, z0, Z1, z1, Z2, z2, Z3, z3, rfl, _⟩ := StR_mL hx.r (HLEN.out 16)
      have b5_ := b4_.trans q5_
      have HGL := hid (blk_lt hbox)
      replace hbox := (q5_.out.block _ (blk_lt hbox)).trans hbox
      have HX := hid (show ∃ lo hi, StO _ lo hi (.agg #[.int .i64 s.ro, .slice Z0 m z0, .slice Z1 m z1, .slice Z2 m z2, .slice Z3 s.bd.length z3]) (macS s 16) ∧ (G < lo) from ⟨_, _, hx, HGL.out⟩)
      clear hx
      refine hK.out _ _ ⟨pw_cell_below b5_.out g0, pw_cell_below b5_.out g1, pw_cell_below b5_.out g2, pw_cell_below b5_.out g3, pw_cell_below b5_.out g4⟩ (fun hHeld => ?_)
      clear hK K; refine norm_ (a' := ?_) ?_ ?_; rotate_left; (show Act.put _ (some 50) _ = _; simp only [Act.put, s1_, s2_, s3_, i64_w, i32_w]; rfl)
      obtain ⟨lo, hi, hx, hd⟩ := HX.out
      have s0 := (blk_cell hbox 0).trans (show _ = some (Value.int .i64 0) from rfl)
      have f0 := blk_frozen hbox 0
      have s1 := (blk_cell hbox 1).trans (show _ = some (Value.slice none 0 0) from rfl)
      have f1 := blk_frozen hbox 1
      have s2 := (blk_cell hbox 2).trans (show _ = some (Value.slice none 0 0) from rfl)
      have f2 := blk_frozen hbox 2
      have s3 := (blk_cell hbox 3).trans (show _ = some (Value.slice none 0 0) from rfl)
      have f3 := blk_frozen hbox 3
      have s4 := (blk_cell hbox 4).trans (show _ = some (Value.slice none 0 0) from rfl)
      have f4 := blk_frozen hbox 4
      have hblk := hid (blk_set (blk_set (blk_set (blk_set (blk_set hbox 0 (.int .i64 s.ro)) 1 (.slice Z0 m z0)) 2 (.slice Z1 m z1)) 3 (.slice Z2 m z2)) 4 (.slice Z3 s.bd.length z3))
      have hwi := (((((Wi.refl w5_ _ _).trans (Wi.set _ G 0 (.int .i64 s.ro))).trans (Wi.set _ G 1 (.slice Z0 m z0))).trans (Wi.set _ G 2 (.slice Z1 m z1))).trans (Wi.set _ G 3 (.slice Z2 m z2))).trans (Wi.set _ G 4 (.slice Z3 s.bd.length z3))
      have hfin := hid (And.intro (hx.wi hwi (by omega)) (b5_.then_wi hwi (by have := HGE.out; omega)))
      clear hx hbox hwi
      refine last_ (i := 10) (N := none) #[true, true, true, true, true, true, true, true, true, true, true] rfl rfl (by kernel_rfl) (by decide) (fun K hK => ?_)
      refine skip_ (w1 := ?_) (by rfl) rfl ?_ ?_
      rotate_left
      ·go_simp
       rfl
      refine hK.out _ _ ?_
      clear hK K
      refine done_ (by kernel_rfl) ?_
      go_wp2
      go_meet
      case rel => exact ⟨G, lo, hi, Z0, z0, Z1, z1, Z2, z2, Z3, z3, rfl, hblk.out, hfin.out.1, hfin.out.2⟩
    ·refine box_step ?hg (N := 8) ?hd (cs := #[.int .i64 0, .slice none 0 0, .slice none 0 0, .slice none 0 0, .slice none 0 0]) (t := 29) ?hr ?_; (case hd => rfl); (case hg => rfl); (case hr => first | (go_simp; done) | (go_simp; rfl))
     intro G hG w6_ hbox hb6_
     have HG0 := hid hG
     have b6_ := bD.trans ⟨hb6_⟩
     have HGE := hid (show w5.heap.size ≤ G by have := bD.size; first | omega | (simp at hG; omega))
     clear hG
     refine hK.out _ _ ⟨pw_cell_below b6_.out g0, pw_cell_below b6_.out g1, pw_cell_below b6_.out g2, pw_cell_below b6_.out g3, pw_cell_below b6_.out g4⟩ (fun hHeld => ?_)
     clear hK K; refine norm_ (a' := ?_) ?_ ?_; rotate_left; (show Act.put _ (some 8) _ = _; simp only [Act.put, s1_, s2_, s3_, i64_w, i32_w]; rfl)
     refine one_ (i := 4) (N := (some 46)) #[true, true, true, true, true, true, true, true, false, true, false] rfl rfl (by kernel_rfl) (by decide) (fun K hK => ?_)
     refine goes_ Try.func9 (by kernel_rfl) rfl #[.agg #[.int .i64 s.ro, .slice X0 m y0, .slice X1 m y1, .slice X2 m y2, .slice X3 s.bd.length y3], .slice AE kt cE] (by rfl) rfl rfl (by (try simp only [List.map_toArray, List.map_cons, List.map_nil]); first | done | rfl) ?_
     refine (impl_RunEvents _ s 0 t AE kt cE _ (HO.out.r.to b6_) (HE1.out.to b6_) HN16.out.1 HN16.out.2.2 HOK.out).mono ?_
     rintro e w7_ ⟨va, rfl, ha, q7_⟩
     refine ⟨_, rfl, ?_⟩
     have b7_ := b6_.trans q7_
     replace hbox := (q7_.out.block _ (blk_lt hbox)).trans hbox
     have HA := hid ha
     clear ha
     refine hK.out _ _ ⟨pw_cell_below b7_.out g0, pw_cell_below b7_.out g1, pw_cell_below b7_.out g2, pw_cell_below b7_.out g3, pw_cell_below b7_.out g4⟩ (fun hHeld => ?_)
     clear hK K; refine norm_ (a' := ?_) ?_ ?_; rotate_left; (show Act.put _ (some 46) _ = _; simp only [Act.put, s1_, s2_, s3_, i64_w, i32_w]; rfl)
     refine one_ (i := 8) (N := (some 50)) #[true, true, true, true, true, true, true, true, true, true, false] rfl rfl (by kernel_rfl) (by decide) (fun K hK => ?_)
     refine goes_ Try.func9 (by kernel_rfl) rfl #[va, .slice AD (k - kt) cD] (by rfl) rfl rfl (by (try simp only [List.map_toArray, List.map_cons, List.map_nil]); first | done | rfl) ?_
     refine (impl_RunEvents _ (runA s 0 t) t 16 AD (k - kt) cD _ HA.out.r (HE2.out.to b7_) HN16.out.2.1 (by decide) HRA.out.2.2.2).mono ?_
     rintro e w8_ ⟨vb, rfl, hx, q8_⟩
     refine ⟨_, rfl, ?_⟩
     rw [HRR.out] at hx
     obtain ⟨Z0, z0, Z1, z1, Z2, z2, Z3, z3, rfl, _⟩ := StR_mL hx.r (HLEN.out 16)
     have b8_ := b7_.trans q8_
     have HGL := hid (blk_lt hbox)
     replace hbox := (q8_.out.block _ (blk_lt hbox)).trans hbox
     have HX := hid (show ∃ lo hi, StO _ lo hi (.agg #[.int .i64 s.ro, .slice Z0 m z0, .slice Z1 m z1, .slice Z2 m z2, .slice Z3 s.bd.length z3]) (macS s 16) ∧ (G < lo) from ⟨_, _, hx, HGL.out⟩)
     clear hx
     refine hK.out _ _ ⟨pw_cell_below b8_.out g0, pw_cell_below b8_.out g1, pw_cell_below b8_.out g2, pw_cell_below b8_.out g3, pw_cell_below b8_.out g4⟩ (fun hHeld => ?_)
     clear hK K; refine norm_ (a' := ?_) ?_ ?_; rotate_left; (show Act.put _ (some 50) _ = _; simp only [Act.put, s1_, s2_, s3_, i64_w, i32_w]; rfl)
     obtain ⟨lo, hi, hx, hd⟩ := HX.out
     have s0 := (blk_cell hbox 0).trans (show _ = some (Value.int .i64 0) from rfl)
     have f0 := blk_frozen hbox 0
     have s1 := (blk_cell hbox 1).trans (show _ = some (Value.slice none 0 0) from rfl)
     have f1 := blk_frozen hbox 1
     have s2 := (blk_cell hbox 2).trans (show _ = some (Value.slice none 0 0) from rfl)
     have f2 := blk_frozen hbox 2
     have s3 := (blk_cell hbox 3).trans (show _ = some (Value.slice none 0 0) from rfl)
     have f3 := blk_frozen hbox 3
     have s4 := (blk_cell hbox 4).trans (show _ = some (Value.slice none 0 0) from rfl)
     have f4 := blk_frozen hbox 4
     have hblk := hid (blk_set (blk_set (blk_set (blk_set (blk_set hbox 0 (.int .i64 s.ro)) 1 (.slice Z0 m z0)) 2 (.slice Z1 m z1)) 3 (.slice Z2 m z2)) 4 (.slice Z3 s.bd.length z3))
     have hwi := (((((Wi.refl w8_ _ _).trans (Wi.set _ G 0 (.int .i64 s.ro))).trans (Wi.set _ G 1 (.slice Z0 m z0))).trans (Wi.set _ G 2 (.slice Z1 m z1))).trans (Wi.set _ G 3 (.slice Z2 m z2))).trans (Wi.set _ G 4 (.slice Z3 s.bd.length z3))
     have hfin := hid (And.intro (hx.wi hwi (by omega)) (b8_.then_wi hwi (by have := HGE.out; omega)))
     clear hx hbox hwi
     refine last_ (i := 10) (N := none) #[true, true, true, true, true, true, true, true, true, true, true] rfl rfl (by kernel_rfl) (by decide) (fun K hK => ?_)
     refine skip_ (w1 := ?_) (by rfl) rfl ?_ ?_
     rotate_left
     ·go_simp
      rfl
     refine hK.out _ _ ?_
     clear hK K
     refine done_ (by kernel_rfl) ?_
     go_wp2
     go_meet
     case rel => exact ⟨G, lo, hi, Z0, z0, Z1, z1, Z2, z2, Z3, z3, rfl, hblk.out, hfin.out.1, hfin.out.2⟩
   case rest =>
    obtain ⟨G, lo, hi, Z0, z0, Z1, z1, Z2, z2, Z3, z3, rfl, hG, hX, hBx⟩ := hcut
    clear hs1 hs2 HE1 HE2 HRA HRR HN16
    have g0 := pw_cell_below hBx.out K_g0.out
    have g1 := pw_cell_below hBx.out K_g1.out
    have g2 := pw_cell_below hBx.out K_g2.out
    have g3 := pw_cell_below hBx.out K_g3.out
    have g4 := pw_cell_below hBx.out K_g4.out
    have hcp1 := pw_cell_below hBx.out K_hcp1.out
    have hbG := blk_lt hG
    have x0 := (blk_cell hG 0).trans (show _ = some (Value.int .i64 s.ro) from rfl)
    have x1 := (blk_cell hG 1).trans (show _ = some (Value.slice Z0 m z0) from rfl)
    have x2 := (blk_cell hG 2).trans (show _ = some (Value.slice Z1 m z1) from rfl)
    have x3 := (blk_cell hG 3).trans (show _ = some (Value.slice Z2 m z2) from rfl)
    have x4 := (blk_cell hG 4).trans (show _ = some (Value.slice Z3 s.bd.length z3) from rfl)
    have HBc := hid (HB.out.trans hBx)
    have HOc := hid (HO.out.to hBx)
    have HIDc := hid (HID4.out.to hBx)
    have HEVc := hid (HEV.out.to hBx)
    have HX := hid hX
    have HQ := hid (show ∀ j, j < k → 0 ≤ (ge (evs s.lv 0 16) j).v ∧ (ge (evs s.lv 0 16) j).v + 1 < (m : Int) from fun j hj => by
     have h1 := (evs_mem (ge_mem (show j < (evs s.lv 0 16).length by rw [HK.out.1]; exact hj))).2
     rw [HM.out.1] at h1
     clear ew1
     omega)
    have HKL := hid (show ((kept (fun x => faceL s.lv x.v.toNat == (lev : Int)) (evs s.lv 0 16) k : Nat) : Int) = (k : Int) - levN s.lv (lev : Int) (m - 1) by
     have := kept_levN s.lv (lev : Int) HLV.out k HK.out.1
     rw [HM.out.1] at this
     exact this)
    have HKM := hid (show k ≤ 1000000 by have := HK.out; clear ew1; omega)
    clear hG hX hBx HB HO HID4 HEV K_g0 K_g1 K_g2 K_g3 K_g4 K_hcp0 K_hcp1 hcp0
    go_wp2_with fail
    refine (impl_DropLevel s.ro (lev : Int) X0 m y0 s.lv AE k cE _ _ HIDc.out HEVc.out HMO.out HM1.out.2 HKM.out HQ.out).mono ?_
    rintro e w8 ⟨A9, c9, rfl, b8⟩
    obtain ⟨kd, hkd⟩ : ∃ kd, kept (fun x => faceL s.lv x.v.toNat == (lev : Int)) (evs s.lv 0 16) k = kd := ⟨_, rfl⟩
    rw [hkd] at HKL ⊢
    have HKD := hid hkd
    replace g0 := pw_cell_below b8.out g0
    replace g1 := pw_cell_below b8.out g1
    replace g2 := pw_cell_below b8.out g2
    replace g3 := pw_cell_below b8.out g3
    replace g4 := pw_cell_below b8.out g4
    replace x0 := pw_cell_below b8.out x0
    replace x1 := pw_cell_below b8.out x1
    replace x2 := pw_cell_below b8.out x2
    replace x3 := pw_cell_below b8.out x3
    replace x4 := pw_cell_below b8.out x4
    have HB8 := hid (HBc.out.trans b8)
    have HID8 := hid (HIDc.out.to b8)
    have HO8 := hid (HOc.out.to b8)
    have HEV8 := hid (HEVc.out.to b8)
    have HX8 := hid (HX.out.to b8)
    clear hkd b8 HBc HIDc HOc HEVc HX
    have J_g0 := hid g0
    have J_g1 := hid g1
    have J_g2 := hid g2
    have J_g3 := hid g3
    have J_g4 := hid g4
    have J_x0 := hid x0
    have J_x1 := hid x1
    have J_x2 := hid x2
    have J_x3 := hid x3
    have J_x4 := hid x4
    clear x0 x1 x2 x3 x4 hcp1
    have hms := HM.out.2.1
    go_wp2
    go_loopw [11, 12] (fun v11 v12 wr => ∃ i : Nat, i ≤ m - 1 ∧ v12 = .int .i64 i ∧ v11 = .int .i64 (levN s.lv (lev : Int) i) ∧ Hid (Bw w8 wr)) (fun _ v12 _ => m - (intOf v12).toNat)
    case atStart => exact ⟨0, by clear ew1; omega, rfl, rfl, hid (Bw.refl _)⟩
    case round =>
     obtain ⟨i, hi, rfl, rfl, hW⟩ := hrel
     clear ew1
     have g0 := pw_cell_below hW.out.out J_g0.out
     have g1 := pw_cell_below hW.out.out J_g1.out
     have g2 := pw_cell_below hW.out.out J_g2.out
     have g3 := pw_cell_below hW.out.out J_g3.out
     have g4 := pw_cell_below hW.out.out J_g4.out
     have e1 : IntKind.i64.wrap ((i : Int) + 1) = (i : Int) + 1 := i64w (by omega) (by omega)
     by_cases hlt : i + 1 < m
     ·have u1 : decide ((i : Int) + 1 < (m : Int)) = true := decide_eq_true (by clear e1; omega)
      have hkk := hid (show i + 1 ≤ m - 1 ∧ m - (i + 1) < m - i by clear e1; omega)
      go_wp2_with fail
      refine (spec_FaceLevel s.ro X0 m y0 s.lv i _ (HID8.out.to hW.out) HMO.out HM1.out.2 hlt).mono ?_
      rintro e w9 ⟨rfl, b9⟩
      have hB2 := hid (hW.out.trans b9)
      obtain ⟨F, hF⟩ : ∃ F, faceL s.lv i = F := ⟨_, rfl⟩
      rw [hF]
      have hNr := levN_range s.lv (lev : Int) i
      obtain ⟨N, hNe⟩ : ∃ N, levN s.lv (lev : Int) i = N := ⟨_, rfl⟩
      rw [hNe] at hNr ⊢
      by_cases hFl : F = (lev : Int)
      ·have u2 : (F == (lev : Int)) = true := beq_iff_eq.2 hFl
       have hN2 : levN s.lv (lev : Int) (i + 1) = N + pow2 (lev : Int) := by rw [levN, hF, u2, hNe]; rfl
       have HN := hid (show wrap64 (N + wrap64 ((2 : Int) ^ lev)) = levN s.lv (lev : Int) (i + 1) by
        have hlv := HLEV.out
        have hlev : lev = 0 ∨ lev = 1 ∨ lev = 2 ∨ lev = 3 ∨ lev = 4 := by clear e1; omega
        have hp2 := pow2_range (lev : Int)
        have hpw : wrap64 ((2 : Int) ^ lev) = pow2 (lev : Int) := by rcases hlev with rfl | rfl | rfl | rfl | rfl <;> (rw [w64 (by decide) (by decide)]; rfl)
        rw [hpw, hN2, w64 (by clear e1 hpw; omega) (by clear e1 hpw; omega)])
       clear hF hNe hW b9 g0 g1 g2 g3 g4 hFl hN2
       have hlv := HLEV.out
       go_wp2
       go_roundw
       case rel => exact ⟨i + 1, hkk.out.1, by go_num, by rw [HN.out], hB2⟩
       case measure => simp [intOf]; clear e1; omega
      ·have u2 : (F == (lev : Int)) = false := beq_eq_false_iff_ne.2 hFl
       have HN := hid (show levN s.lv (lev : Int) (i + 1) = N by rw [levN, hF, u2, hNe]; simp)
       clear hF hNe hW b9 g0 g1 g2 g3 g4 hFl
       go_wp2
       go_roundw
       case rel => exact ⟨i + 1, hkk.out.1, by go_num, by rw [HN.out], hB2⟩
       case measure => simp [intOf]; clear e1; omega
     ·obtain rfl : i = m - 1 := by clear e1; omega
      have u1 : decide (((m - 1 : Nat) : Int) + 1 < (m : Int)) = false := decide_eq_false (by clear e1; omega)
      have hBr := hW.out
      have x0 := pw_cell_below hBr.out J_x0.out
      have x1 := pw_cell_below hBr.out J_x1.out
      have x2 := pw_cell_below hBr.out J_x2.out
      have x3 := pw_cell_below hBr.out J_x3.out
      have x4 := pw_cell_below hBr.out J_x4.out
      have HOr := hid (HO8.out.to hBr)
      have HEVr := hid (HEV8.out.to hBr)
      have HXr := hid (HX8.out.to hBr)
      have HBr := hid (HB8.out.trans hBr)
      have hNr := levN_range s.lv (lev : Int) (m - 1)
      have hkl := HKL.out
      obtain ⟨N, hNe⟩ : ∃ N, levN s.lv (lev : Int) (m - 1) = N := ⟨_, rfl⟩
      rw [hNe] at hNr hkl ⊢
      have HKN := hid (show k ≤ 4096 from HK.out.2.2.1)
      have u3 : IntKind.i64.wrap ((k : Int) - N) = (kd : Int) := by rw [hkl]; exact i64w (by have := HKN.out; clear e1; omega) (by have := HKN.out; clear e1; omega)
      have u4 : ((kd : Int) == (kd : Int)) = true := by simp
      clear hNe hkl hNr HKL J_g0 J_g1 J_g2 J_g3 J_g4 J_x0 J_x1 J_x2 J_x3 J_x4 hW hBr HB8 HO8 HEV8 HX8 HID8 HQ
      go_upto_region 19 with fail
      clear e1
      have bD := Bw.drawn (a := wr) ⟨⟨1, rfl⟩⟩
      refine start_ (n := 15) (S := fun w' => w'.cell? ⟨w1.heap.size, 0, none⟩ = some (.int .i64 s.ro) ∧ w'.cell? ⟨w1.heap.size, 1, none⟩ = some (.slice X0 m y0) ∧ w'.cell? ⟨w1.heap.size, 2, none⟩ = some (.slice X1 m y1) ∧ w'.cell? ⟨w1.heap.size, 3, none⟩ = some (.slice X2 m y2) ∧ w'.cell? ⟨w1.heap.size, 4, none⟩ = some (.slice X3 s.bd.length y3) ∧ w'.cell? ⟨G, 0, none⟩ = some (.int .i64 s.ro) ∧ w'.cell? ⟨G, 1, none⟩ = some (.slice Z0 m z0) ∧ w'.cell? ⟨G, 2, none⟩ = some (.slice Z1 m z1) ∧ w'.cell? ⟨G, 3, none⟩ = some (.slice Z2 m z2) ∧ w'.cell? ⟨G, 4, none⟩ = some (.slice Z3 s.bd.length z3)) (ds := [14]) #[false, false, false, false, false, false, false, false, false, false, false, false, false, false, false] (by kernel_rfl) rfl rfl ⟨g0, g1, g2, g3, g4, x0, x1, x2, x3, x4⟩ (fun hHeld => ?_)
      refine tq_ (i := 0) (N := (some 79)) (v := ?_) (a' := ?_) rfl rfl (by kernel_rfl) (fun _ _ _ h => h) (Or.inl ⟨by rfl, ?_⟩) hHeld ?_ ?_
      rotate_left; (rintro w' ⟨s0, s1, s2, s3, s4, s5, s6, s7, s8, s9⟩; go_simp; with_reducible rfl); rotate_left; (simp only [Act.put, s1_, s2_, s3_, i64_w, i32_w]; rfl)
      refine tq_ (i := 1) (N := (some 80)) (v := ?_) (a' := ?_) rfl rfl (by kernel_rfl) (fun _ _ _ h => h) (Or.inl ⟨by rfl, ?_⟩) hHeld ?_ ?_
      rotate_left; (rintro w' ⟨s0, s1, s2, s3, s4, s5, s6, s7, s8, s9⟩; go_simp; with_reducible rfl); rotate_left; (simp only [Act.put, s1_, s2_, s3_, i64_w, i32_w]; rfl)
      refine pq_ (i := 2) (N := (some 81)) (v := ?_) (a' := ?_) rfl rfl (by kernel_rfl) (fun _ _ _ h => h) (Or.inl ⟨by rfl, ?_⟩) ?_ ?_
      rotate_left; (intro w'; go_simp; with_reducible rfl); rotate_left; (simp only [Act.put, s1_, s2_, s3_, i64_w, i32_w]; rfl)
      refine one_ (i := 3) (N := (some 82)) #[true, true, true, true, false, false, false, false, false, false, false, false, false, false, false] rfl rfl (by kernel_rfl) (by decide) (fun K hK => ?_)
      refine goes_ Try.func9 (by kernel_rfl) rfl #[.agg #[.int .i64 s.ro, .slice X0 m y0, .slice X1 m y1, .slice X2 m y2, .slice X3 s.bd.length y3], .slice AE k cE] (by rfl) rfl rfl (by (try simp only [List.map_toArray, List.map_cons, List.map_nil]); first | done | rfl) ?_
      refine (impl_RunEvents _ s 0 16 AE k cE _ (HOr.out.r.to bD) (HEVr.out.to bD) HKN.out (by decide) HOK.out).mono ?_
      rintro e wa ⟨v, rfl, hv, ba⟩
      refine ⟨_, rfl, ?_⟩
      rw [HRS.out] at hv
      have bA := bD.trans ba
      refine hK.out _ _ ⟨pw_cell_below bA.out g0, pw_cell_below bA.out g1, pw_cell_below bA.out g2, pw_cell_below bA.out g3, pw_cell_below bA.out g4, pw_cell_below bA.out x0, pw_cell_below bA.out x1, pw_cell_below bA.out x2, pw_cell_below bA.out x3, pw_cell_below bA.out x4⟩ (fun hHeld => ?_)
      clear hK K; refine norm_ (a' := ?_) ?_ ?_; rotate_left; (show Act.put _ (some 82) _ = _; simp only [Act.put, s1_, s2_, s3_, i64_w, i32_w]; rfl)
      refine one_ (i := 4) (N := (some 83)) #[true, true, true, true, true, false, false, false, false, false, false, false, false, false, false] rfl rfl (by kernel_rfl) (by decide) (fun K hK => ?_)
      refine goes_ Try.func11 (by kernel_rfl) rfl #[.agg #[.int .i64 s.ro, .slice Z0 m z0, .slice Z1 m z1, .slice Z2 m z2, .slice Z3 s.bd.length z3], v] (by rfl) rfl rfl (by (try simp only [List.map_toArray, List.map_cons, List.map_nil]); first | done | rfl) ?_
      refine (spec_SameState_yes _ _ (macS s 16) _ (HXr.out.r.to bA) hv.r).mono ?_
      rintro e wb ⟨rfl, bb⟩
      refine ⟨_, rfl, ?_⟩
      have bC := bA.trans bb
      refine hK.out _ _ ⟨pw_cell_below bC.out g0, pw_cell_below bC.out g1, pw_cell_below bC.out g2, pw_cell_below bC.out g3, pw_cell_below bC.out g4, pw_cell_below bC.out x0, pw_cell_below bC.out x1, pw_cell_below bC.out x2, pw_cell_below bC.out x3, pw_cell_below bC.out x4⟩ (fun hHeld => ?_)
      clear hK K; refine norm_ (a' := ?_) ?_ ?_; rotate_left; (show Act.put _ (some 83) _ = _; simp only [Act.put, s1_, s2_, s3_, i64_w, i32_w]; rfl)
      refine pq_ (i := 5) (N := (some 84)) (v := ?_) (a' := ?_) rfl rfl (by kernel_rfl) (fun _ _ _ h => h) (Or.inl ⟨by rfl, ?_⟩) ?_ ?_
      rotate_left; (intro w'; go_simp; with_reducible rfl); rotate_left; (simp only [Act.put, s1_, s2_, s3_, i64_w, i32_w]; rfl)
      refine pq_ (i := 6) (N := (some 85)) (v := ?_) (a' := ?_) rfl rfl (by kernel_rfl) (fun _ _ _ h => h) (Or.inl ⟨by rfl, ?_⟩) ?_ ?_
      rotate_left; (intro w'; go_simp; with_reducible rfl); rotate_left; (simp only [Act.put, s1_, s2_, s3_, i64_w, i32_w]; rfl)
      refine pq_ (i := 7) (N := (some 86)) (v := ?_) (a' := ?_) rfl rfl (by kernel_rfl) (fun _ _ _ h => h) (Or.inl ⟨by rfl, ?_⟩) ?_ ?_
      rotate_left; (intro w'; go_simp; with_reducible rfl); rotate_left; (simp only [Act.put, s1_, s2_, s3_, i64_w, i32_w]; rfl)
      refine pq_ (i := 8) (N := (some 87)) (v := ?_) (a' := ?_) rfl rfl (by kernel_rfl) (fun _ _ _ h => h) (Or.inl ⟨by rfl, ?_⟩) ?_ ?_
      rotate_left; (intro w'; go_simp; with_reducible rfl); rotate_left; (simp only [Act.put, s1_, s2_, s3_, i64_w, i32_w]; rfl)
      refine pq_ (i := 9) (N := (some 88)) (v := ?_) (a' := ?_) rfl rfl (by kernel_rfl) (fun _ _ _ h => h) (Or.inl ⟨by rfl, ?_⟩) ?_ ?_
      rotate_left; (intro w'; go_simp; with_reducible rfl); rotate_left; (simp only [Act.put, s1_, s2_, s3_, i64_w, i32_w]; rfl)
      refine pq_ (i := 10) (N := (some 89)) (v := ?_) (a' := ?_) rfl rfl (by kernel_rfl) (fun _ _ _ h => h) (Or.inl ⟨by rfl, ?_⟩) ?_ ?_
      rotate_left; (intro w'; go_simp; with_reducible rfl); rotate_left; (simp only [Act.put, s1_, s2_, s3_, i64_w, i32_w]; rfl)
      refine pq_ (i := 11) (N := (some 90)) (v := ?_) (a' := ?_) rfl rfl (by kernel_rfl) (fun _ _ _ h => h) (Or.inl ⟨by rfl, ?_⟩) ?_ ?_
      rotate_left; (intro w'; go_simp; with_reducible rfl); rotate_left; (simp only [Act.put, s1_, s2_, s3_, i64_w, i32_w]; rfl)
      refine pq_ (i := 12) (N := (some 91)) (v := ?_) (a' := ?_) rfl rfl (by kernel_rfl) (fun _ _ _ h => h) (Or.inl ⟨by rfl, ?_⟩) ?_ ?_
      rotate_left; (intro w'; go_simp; with_reducible rfl); rotate_left; (simp only [Act.put, s1_, s2_, s3_, i64_w, i32_w]; rfl)
      refine pq_ (i := 13) (N := (some 92)) (v := ?_) (a' := ?_) rfl rfl (by kernel_rfl) (fun _ _ _ h => h) (Or.inl ⟨by rfl, ?_⟩) ?_ ?_
      rotate_left; (intro w'; go_simp; with_reducible rfl); rotate_left; (simp only [Act.put, s1_, s2_, s3_, i64_w, i32_w]; rfl)
      clear hHeld
      refine last_ (i := 14) (N := (some 2)) #[true, true, true, true, true, true, true, true, true, true, true, true, true, true, true] rfl rfl (by kernel_rfl) (by decide) (fun K hK => ?_)
      refine value_ (w1 := ?_) (v := ?_) (by rfl) rfl ?_ ?_
      rotate_left 2
      ·go_simp
       constructor
       ·rfl
       ·rfl
      refine hK.out _ _ ?_
      clear hK K; refine norm_ (a' := ?_) ?_ ?_; rotate_left; (show Act.put _ (some 2) _ = _; simp only [Act.put, s1_, s2_, s3_, i64_w, i32_w]; rfl)
      refine done_ (by kernel_rfl) ?_
      have hBF := HBr.out.trans bC
      clear bD ba bA bb bC
      go_wp2
      go_ret
      exact ⟨rfl, hBF⟩
 ·have t1 : decide (1048576 < (n : Int)) = true := decide_eq_true (by omega)
  have T1 := hid t1
  clear t1
  go_enter Try.func4, Try.ntmps4
  go_wp2_with fail
  refine (toBool (lawbig _ _ _ _) T1.out).mono ?_
  rintro e w1 ⟨rfl, rfl⟩
  go_wp2
  go_ret
  exact ⟨rfl, Bw.refl _⟩
end Go.Proofs.Ytkendhkaheoinaa.U
