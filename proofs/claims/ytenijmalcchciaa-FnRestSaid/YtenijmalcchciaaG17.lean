
/- A macro step: the plain law. -/
import Derived.Test.YtenijmalcchciaaG15
import Derived.Test.YtenijmalcchciaaG14
set_option linter.unusedVariables false
set_option linter.unusedSimpArgs false
namespace Go.Proofs.Ytenijmalcchciaa.U
open Go.RowKit Go.Lib Go.Proofs.YtenijmalcchciaaW.PrintWords
def macS (s : Sta) : Nat → Sta
 | 0 => s
 | k + 1 => stepS (macS s k) (k : Int)
theorem macS_same (s : Sta) : ∀ k, (macS s k).ro = s.ro ∧ (macS s k).lv = s.lv ∧ (macS s k).bd = s.bd
 | 0 => ⟨rfl, rfl, rfl⟩
 | k + 1 => macS_same s k
theorem macS_ok {s : Sta} (h : staOk s.ro s.lv s.ms s.ts s.bd = true) : ∀ k, staOk (macS s k).ro (macS s k).lv (macS s k).ms (macS s k).ts (macS s k).bd = true
 | 0 => h
 | k + 1 => stepS_ok (macS_ok h k) _
theorem macS_len {s : Sta} (h : staOk s.ro s.lv s.ms s.ts s.bd = true) (k : Nat) : (macS s k).lv.length = s.lv.length ∧ (macS s k).ms.length = s.lv.length ∧ (macS s k).ts.length = s.lv.length ∧ (macS s k).bd.length = s.bd.length := by
 have h1 := (StF.of (macS_ok h k))
 have h2 := macS_same s k
 exact ⟨by rw [h2.2.1], by rw [h1.ms, h2.2.1], by rw [h1.ts, h2.2.1], by rw [h2.2.2]⟩
def fsum (s : Sta) (i : Nat) : Nat → Int
 | 0 => 0
 | k + 1 => fsum s i k + fl (macS s k) (k : Int) i
def fsL (s : Sta) (k : Nat) : Nat → Int
 | 0 => 0
 | i + 1 => fsum s i k
theorem fsum_range {s : Sta} (h : staOk s.ro s.lv s.ms s.ts s.bd = true) (i : Nat) (hi : i < s.lv.length) : ∀ k : Nat, -(10000000 * (k : Int)) ≤ fsum s i k ∧ fsum s i k ≤ 10000000 * (k : Int)
 | 0 => by simp [fsum]
 | k + 1 => by
  have ih := fsum_range h i hi k
  have h1 := fl_bd (StF.of (macS_ok h k)) (k : Int) i (by rw [(macS_len h k).1]; exact hi)
  rw [fsum]
  omega
theorem fsum_last {s : Sta} (h : staOk s.ro s.lv s.ms s.ts s.bd = true) (i : Nat) (hi : i < s.lv.length) (hl : ¬ i + 1 < s.lv.length) : ∀ k, fsum s i k = 0
 | 0 => rfl
 | k + 1 => by
  rw [fsum, fsum_last h i hi hl k, (fl_range (StF.of (macS_ok h k)) (k : Int) i (by rw [(macS_len h k).1]; exact hi)).2.2 (by rw [(macS_len h k).1]; exact hl)]
  rfl
theorem macS_ms {s : Sta} (h : staOk s.ro s.lv s.ms s.ts s.bd = true) (i : Nat) (hi : i < s.lv.length) : ∀ k, rd (macS s k).ms (i : Int) = rd s.ms (i : Int) + fsL s k i - fsum s i k
 | 0 => by cases i <;> simp [macS, fsL, fsum]
 | k + 1 => by
  have ih := macS_ms h i hi k
  have e : rd (macS s (k + 1)).ms (i : Int) = stM (macS s k) (k : Int) i := rd_rowOf (stM (macS s k) (k : Int)) (by rw [(macS_len h k).1]; exact hi)
  rw [e, stM, ih, fsum]
  cases i with
  | zero => simp only [fsL, flL]; omega
  | succ i => simp only [fsL, flL, fsum]; omega
end Go.Proofs.Ytenijmalcchciaa.U
set_option linter.unusedVariables false
set_option linter.unusedSimpArgs false
namespace Go.Proofs.Ytenijmalcchciaa.U
open Go.RowKit Go.Lib Go.Proofs.YtenijmalcchciaaW.PrintWords
set_option maxHeartbeats 8000000 in
set_option maxRecDepth 100000 in
theorem impl_macro (P lo hi : Nat) (s : Sta) (vl vm vt vb : Value) (w : World) (hP : w.heap[P]? = some (.cells #[.int .i64 s.ro, vl, vm, vt, vb] 50 (0, 0))) (hok : staOk s.ro s.lv s.ms s.ts s.bd = true)
  (hO : StO w lo hi (.agg #[.int .i64 s.ro, vl, vm, vt, vb]) s) (hhi : hi ≤ w.heap.size) :
  Calls Try.prog 59 #[.pointer (some ⟨P, 0, none⟩)] w fun e w' => ∃ u, e = .returned u ∧ w'.heap[P]? = some (.cells #[.int .i64 s.ro, vl, vm, vt, vb] 50 (0, 0)) ∧ StO w' lo hi (.agg #[.int .i64 s.ro, vl, vm, vt, vb]) (macS s 16) ∧ Wi w w' lo hi := by
 obtain ⟨vl', vm', vt', vb', e, hl, hm, ht, hb, ap⟩ := hO
 simp only [Value.agg.injEq, Array.mk.injEq, List.cons.injEq, and_true, true_and] at e
 obtain ⟨rfl, rfl, rfl, rfl⟩ := e
 obtain ⟨Al, cl, rfl, _, fl_⟩ := hl.reads
 have HP := hid hP
 have HO := hid (show StO w lo hi (.agg #[.int .i64 s.ro, .slice Al s.lv.length cl, vm, vt, vb]) s from ⟨_, _, _, _, rfl, hl, hm, ht, hb, ap⟩)
 have HOK := hid hok
 have HR := hid (macS_same s)
 clear hP hok hl hm ht hb ap fl_
 go_enter Try.func59, Try.ntmps59
 go_wp2
 go_loopw [3] (fun v3 wr => ∃ k : Nat, k ≤ 16 ∧ v3 = .int .i64 k ∧ Hid (wr.heap[P]? = some (.cells #[.int .i64 s.ro, .slice Al s.lv.length cl, vm, vt, vb] 50 (0, 0))) ∧ Hid (StO wr lo hi (.agg #[.int .i64 s.ro, .slice Al s.lv.length cl, vm, vt, vb]) (macS s k)) ∧ Hid (Wi w wr lo hi)) (fun v3 _ => 16 - (intOf v3).toNat)
 case atStart => exact ⟨0, by omega, rfl, HP, HO, hid (Wi.refl _ _ _)⟩
 case round =>
  obtain ⟨k, hk, rfl, hB, hS, hW⟩ := hrel
  by_cases hlt : k < 16
  ·have t1 : decide ((k : Int) < 16) = true := decide_eq_true (by omega)
   have t2 : decide (k < 16) = true := decide_eq_true (by omega)
   have e1 : IntKind.i64.wrap ((k : Int) + 1) = (k : Int) + 1 := i64w (by omega) (by omega)
   have hsz : hi ≤ wr.heap.size := by have := hW.out.size; clear e1; omega
   have hkk := hid (show k + 1 ≤ 16 ∧ 16 - (k + 1) < 16 - k by clear e1; omega)
   obtain ⟨vl', vm', vt', vb', e, hl, _⟩ := hS.out
   simp only [Value.agg.injEq, Array.mk.injEq, List.cons.injEq, and_true, Value.int.injEq, true_and] at e
   have hl2 := hl.o
   rw [← e.2.1] at hl2
   have rl := (FO.fr hl2).id
   have hlv := (HR.out k).2.1
   have hG := StG.of (macS_ok HOK.out k)
   have hone := hG.one
   have hn128 := hG.f.n
   rw [hlv] at rl hone hn128
   have k0 := (blk_cell hB.out 0).trans (show _ = some (Value.int .i64 s.ro) from rfl)
   have k1 := (blk_cell hB.out 1).trans (show _ = some (Value.slice Al s.lv.length cl) from rfl)
   have HG := hid hG
   clear hl hl2 e hG hlv
   go_wp2_with fail
   refine (impl_active s.ro Al s.lv.length cl s.lv (k : Int) _ rl hone (by clear e1; omega) (by clear e1; omega)).mono ?_
   rintro e w5 ⟨v, rfl, o5, b5⟩
   obtain ⟨F, cf, rfl, hF⟩ := o5.reads
   have hB5 := hid ((b5.out.block _ (blk_lt hB.out)).trans hB.out)
   have hS5 := hid (hS.out.to b5)
   have hW5 := hid (hW.out.trans (b5.wi lo hi))
   have hsz5 : hi ≤ w5.heap.size := by have := b5.size; clear e1; omega
   clear hB hS hW k0 k1 o5 b5 rl
   go_wp2_with fail
   refine (move_StO P lo hi (macS s k) (k : Int) (.slice Al s.lv.length cl) vm vt vb F _ cf w5 (by rw [(HR.out k).1]; exact hB5.out) HG.out (by rw [(HR.out k).1]; exact hS5.out) hsz5 (by rw [(HR.out k).2.1]; exact hF)).mono ?_
   rintro e w6 ⟨u, rfl, hk6, hO6, z6⟩
   rw [(HR.out k).1] at hk6 hO6
   have hB6 := hid hk6
   have hS6 := hid (show StO w6 lo hi (.agg #[.int .i64 s.ro, .slice Al s.lv.length cl, vm, vt, vb]) (macS s (k + 1)) from hO6)
   have hW6 := hid (hW5.out.trans z6)
   clear hk6 hO6 z6 hB5 hS5 hW5 hF
   go_wp2
   go_roundw
   case rel => exact ⟨k + 1, hkk.out.1, by go_num, hB6, hS6, hW6⟩
   case measure => simp [intOf]; clear e1; omega
  ·obtain rfl : k = 16 := by omega
   have t1 : decide (((16 : Nat) : Int) < 16) = false := decide_eq_false (by omega)
   go_wp2
   exact bodyPost_end (v := .tuple #[]) (by simp [results, Try.results59, go_sem]) rfl ⟨_, rfl, hB.out, hS.out, hW.out⟩
set_option maxHeartbeats 8000000 in
set_option maxRecDepth 100000 in
theorem impl_MacroStep (x : Value) (s : Sta) (w : World) (hx : StR w x s) (hok : staOk s.ro s.lv s.ms s.ts s.bd = true) :
  Calls Try.prog 26 #[x] w fun e w' => ∃ v, e = .returned v ∧ StO w' w.heap.size w'.heap.size v (macS s 16) ∧ Bw w w' := by
 have hs := StG.of hok
 have hmx := hs.f.n
 have hx0 := hx
 have HL := hid (show s.lv.length ≤ 1000000 ∧ s.ms.length ≤ 1000000000 ∧ s.ts.length ≤ 1000000000 ∧ s.bd.length ≤ 1000000000 from ⟨by omega, by rw [hs.f.ms]; omega, by rw [hs.f.ts]; omega, by have := hs.f.bd; omega⟩)
 obtain ⟨A0, c0, A1, c1, A2, c2, A3, c3, rfl, r0, r1, r2, r3⟩ := hx
 have b0 := (Bw.box1 w (.cells #[.int .i64 s.ro, .slice A0 s.lv.length c0, .slice A1 s.ms.length c1, .slice A2 s.ts.length c2, .slice A3 s.bd.length c3] 50)).alloc (.cells #[.int .i64 0, .slice none 0 0, .slice none 0 0, .slice none 0 0, .slice none 0 0] 50)
 have g0 := box_cell ((Bw.refl (w.alloc (.cells #[.int .i64 s.ro, .slice A0 s.lv.length c0, .slice A1 s.ms.length c1, .slice A2 s.ts.length c2, .slice A3 s.bd.length c3] 50))).alloc (.cells #[.int .i64 0, .slice none 0 0, .slice none 0 0, .slice none 0 0, .slice none 0 0] 50)) 0
 have g1 := box_cell ((Bw.refl (w.alloc (.cells #[.int .i64 s.ro, .slice A0 s.lv.length c0, .slice A1 s.ms.length c1, .slice A2 s.ts.length c2, .slice A3 s.bd.length c3] 50))).alloc (.cells #[.int .i64 0, .slice none 0 0, .slice none 0 0, .slice none 0 0, .slice none 0 0] 50)) 1
 have g2 := box_cell ((Bw.refl (w.alloc (.cells #[.int .i64 s.ro, .slice A0 s.lv.length c0, .slice A1 s.ms.length c1, .slice A2 s.ts.length c2, .slice A3 s.bd.length c3] 50))).alloc (.cells #[.int .i64 0, .slice none 0 0, .slice none 0 0, .slice none 0 0, .slice none 0 0] 50)) 2
 have g3 := box_cell ((Bw.refl (w.alloc (.cells #[.int .i64 s.ro, .slice A0 s.lv.length c0, .slice A1 s.ms.length c1, .slice A2 s.ts.length c2, .slice A3 s.bd.length c3] 50))).alloc (.cells #[.int .i64 0, .slice none 0 0, .slice none 0 0, .slice none 0 0, .slice none 0 0] 50)) 3
 have g4 := box_cell ((Bw.refl (w.alloc (.cells #[.int .i64 s.ro, .slice A0 s.lv.length c0, .slice A1 s.ms.length c1, .slice A2 s.ts.length c2, .slice A3 s.bd.length c3] 50))).alloc (.cells #[.int .i64 0, .slice none 0 0, .slice none 0 0, .slice none 0 0, .slice none 0 0] 50)) 4
 simp only [List.getElem?_toArray, List.getElem?_cons_zero, List.getElem?_cons_succ] at g0 g1 g2 g3 g4
 have hR := heap_alloc_new (w.alloc (.cells #[.int .i64 s.ro, .slice A0 s.lv.length c0, .slice A1 s.ms.length c1, .slice A2 s.ts.length c2, .slice A3 s.bd.length c3] 50)) (.cells #[.int .i64 0, .slice none 0 0, .slice none 0 0, .slice none 0 0, .slice none 0 0] 50 (0, 0))
 rw [show (w.alloc (.cells #[.int .i64 s.ro, .slice A0 s.lv.length c0, .slice A1 s.ms.length c1, .slice A2 s.ts.length c2, .slice A3 s.bd.length c3] 50)).heap.size = w.heap.size + 1 by simp] at hR
 have HR := hid hR
 have HOK := hid hok
 clear hR hok
 go_enter Try.func26, Try.ntmps26
 go_upto_region 1 with fail
 generalize ((w.alloc (.cells #[.int .i64 s.ro, .slice A0 s.lv.length c0, .slice A1 s.ms.length c1, .slice A2 s.ts.length c2, .slice A3 s.bd.length c3] 50)).alloc (.cells #[.int .i64 0, .slice none 0 0, .slice none 0 0, .slice none 0 0, .slice none 0 0] 50)) = W1 at *
 go_wp2_with fail
 refine (impl_copyState _ s _ (hx0.to b0) HL.out.1 HL.out.2.1 HL.out.2.2.1 HL.out.2.2.2).mono ?_
 rintro e w2 ⟨v, rfl, hO, b2⟩
 obtain ⟨vl, vm, vt, vb, rfl, hl, hm, ht_, hb, ap⟩ := hO
 obtain ⟨Al, cl, rfl, _, _⟩ := hl.reads
 obtain ⟨Am, cm, rfl, _, _⟩ := hm.reads
 obtain ⟨At, ct, rfl, _, _⟩ := ht_.reads
 obtain ⟨Ab, cb, rfl, _, _⟩ := hb.reads
 have bx := Bw.box1 w2 (.cells #[.int .i64 s.ro, .slice Al s.lv.length cl, .slice Am s.ms.length cm, .slice At s.ts.length ct, .slice Ab s.bd.length cb] 50)
 have HF := hid (heap_alloc_new w2 (.cells #[.int .i64 s.ro, .slice Al s.lv.length cl, .slice Am s.ms.length cm, .slice At s.ts.length ct, .slice Ab s.bd.length cb] 50 (0, 0)))
 have hO2 : StO w2 W1.heap.size w2.heap.size (.agg #[.int .i64 s.ro, .slice Al s.lv.length cl, .slice Am s.ms.length cm, .slice At s.ts.length ct, .slice Ab s.bd.length cb]) s := ⟨_, _, _, _, rfl, hl, hm, ht_, hb, ap⟩
 have HO := hid (hO2.to bx)
 have HB1 := hid (b2.trans bx)
 have hb0 := b0.size
 have hb2 := b2.size
 have hw1 : w.heap.size + 1 < W1.heap.size := blk_lt HR.out
 have HRR := hid ((HB1.out.out.block _ (blk_lt HR.out)).trans HR.out)
 have HK := hid (b0.trans HB1.out)
 replace g0 := pw_cell_below HB1.out.out g0
 replace g1 := pw_cell_below HB1.out.out g1
 replace g2 := pw_cell_below HB1.out.out g2
 replace g3 := pw_cell_below HB1.out.out g3
 replace g4 := pw_cell_below HB1.out.out g4
 have hP1 : w2.heap.size + 1 ≤ (w2.alloc (.cells #[.int .i64 s.ro, .slice Al s.lv.length cl, .slice Am s.ms.length cm, .slice At s.ts.length ct, .slice Ab s.bd.length cb] 50)).heap.size := by simp
 clear hO2 hl hm ht_ hb bx b2
 go_upto_region 2 with fail
 generalize (w2.alloc (.cells #[.int .i64 s.ro, .slice Al s.lv.length cl, .slice Am s.ms.length cm, .slice At s.ts.length ct, .slice Ab s.bd.length cb] 50)) = W3 at *
 generalize w2.heap.size = P at *
 have r0' := (r0.to HK.out)
 have r1' := (r1.to HK.out)
 have r2' := (r2.to HK.out)
 have r3' := (r3.to HK.out)
 go_wp2_with fail
 refine (impl_StateOk s.ro A0 _ c0 s.lv A1 _ c1 s.ms A2 _ c2 s.ts A3 _ c3 s.bd _ r0' r1' r2' r3').mono ?_
 rintro e w4 ⟨rfl, b4⟩
 rw [HOK.out]
 replace g0 := pw_cell_below b4.out g0
 replace g1 := pw_cell_below b4.out g1
 replace g2 := pw_cell_below b4.out g2
 replace g3 := pw_cell_below b4.out g3
 replace g4 := pw_cell_below b4.out g4
 have hk4 := (b4.out.block _ (blk_lt HF.out)).trans HF.out
 have HO4 := hid (HO.out.to b4)
 have HR4 := hid ((b4.out.block _ (blk_lt HRR.out)).trans HRR.out)
 have HB4 := hid (HK.out.trans b4)
 have hP4 : P + 1 ≤ w4.heap.size := by have := b4.size; omega
 have HP4 := hid hk4
 clear r0' r1' r2' r3' HF HO HRR HK HB1 hk4 b4
 ·go_wp2_with fail
  refine (impl_macro P W1.heap.size P s _ _ _ _ w4 HP4.out HOK.out HO4.out (by omega)).mono ?_
  rintro e w6 ⟨u, rfl, hk6, hO6, z6⟩
  have hP6 : P + 1 ≤ w6.heap.size := by have := z6.size; omega
  have hw6 := z6.block _ (blk_lt HR4.out) (by omega)
  have hR6 := hw6.trans HR4.out
  have hB6 := HB4.out.then_wi z6 (by omega)
  clear z6 hw6 HP4 HO4 HR4 HB4
  have p0 := (blk_cell hk6 0).trans (show _ = some (Value.int .i64 s.ro) from rfl)
  have s0 := (blk_cell hR6 0).trans (show _ = some (Value.int .i64 0) from rfl)
  have f0 := blk_frozen hR6 0
  have p1 := (blk_cell hk6 1).trans (show _ = some (Value.slice Al s.lv.length cl) from rfl)
  have s1 := (blk_cell hR6 1).trans (show _ = some (Value.slice none 0 0) from rfl)
  have f1 := blk_frozen hR6 1
  have p2 := (blk_cell hk6 2).trans (show _ = some (Value.slice Am s.ms.length cm) from rfl)
  have s2 := (blk_cell hR6 2).trans (show _ = some (Value.slice none 0 0) from rfl)
  have f2 := blk_frozen hR6 2
  have p3 := (blk_cell hk6 3).trans (show _ = some (Value.slice At s.ts.length ct) from rfl)
  have s3 := (blk_cell hR6 3).trans (show _ = some (Value.slice none 0 0) from rfl)
  have f3 := blk_frozen hR6 3
  have p4 := (blk_cell hk6 4).trans (show _ = some (Value.slice Ab s.bd.length cb) from rfl)
  have s4 := (blk_cell hR6 4).trans (show _ = some (Value.slice none 0 0) from rfl)
  have f4 := blk_frozen hR6 4
  have hwi : Wi w6 (((((w6.setCell ⟨w.heap.size + 1, 0, none⟩ (.int .i64 s.ro)).setCell ⟨w.heap.size + 1, 1, none⟩ (.slice Al s.lv.length cl)).setCell ⟨w.heap.size + 1, 2, none⟩ (.slice Am s.ms.length cm)).setCell ⟨w.heap.size + 1, 3, none⟩ (.slice At s.ts.length ct)).setCell ⟨w.heap.size + 1, 4, none⟩ (.slice Ab s.bd.length cb)) (w.heap.size + 1) (w.heap.size + 1 + 1) := (((((Wi.refl _ _ _).trans (Wi.set _ _ 0 (.int .i64 s.ro))).trans (Wi.set _ _ 1 (.slice Al s.lv.length cl))).trans (Wi.set _ _ 2 (.slice Am s.ms.length cm))).trans (Wi.set _ _ 3 (.slice At s.ts.length ct))).trans (Wi.set _ _ 4 (.slice Ab s.bd.length cb))
  have HFF := hid (show (((((w6.setCell ⟨w.heap.size + 1, 0, none⟩ (.int .i64 s.ro)).setCell ⟨w.heap.size + 1, 1, none⟩ (.slice Al s.lv.length cl)).setCell ⟨w.heap.size + 1, 2, none⟩ (.slice Am s.ms.length cm)).setCell ⟨w.heap.size + 1, 3, none⟩ (.slice At s.ts.length ct)).setCell ⟨w.heap.size + 1, 4, none⟩ (.slice Ab s.bd.length cb)).heap[w.heap.size + 1]? = some (.cells #[.int .i64 s.ro, .slice Al s.lv.length cl, .slice Am s.ms.length cm, .slice At s.ts.length ct, .slice Ab s.bd.length cb] 50 (0, 0)) from (blk_set (blk_set (blk_set (blk_set (blk_set hR6 0 (.int .i64 s.ro)) 1 (.slice Al s.lv.length cl)) 2 (.slice Am s.ms.length cm)) 3 (.slice At s.ts.length ct)) 4 (.slice Ab s.bd.length cb)))
  have HST := hid (StO_mono (hO6.wi hwi (Or.inr (by omega))) (show w.heap.size ≤ W1.heap.size by omega) (show P ≤ (((((w6.setCell ⟨w.heap.size + 1, 0, none⟩ (.int .i64 s.ro)).setCell ⟨w.heap.size + 1, 1, none⟩ (.slice Al s.lv.length cl)).setCell ⟨w.heap.size + 1, 2, none⟩ (.slice Am s.ms.length cm)).setCell ⟨w.heap.size + 1, 3, none⟩ (.slice At s.ts.length ct)).setCell ⟨w.heap.size + 1, 4, none⟩ (.slice Ab s.bd.length cb)).heap.size by have := hwi.size; omega))
  have HBF := hid (hB6.then_wi hwi (by omega))
  clear hk6 hO6 hR6 hB6 hwi
  go_wp2
  refine bodyPost_ret (results_cell_row rfl _ _ (w.heap.size + 1) 50 #[.int .i64 s.ro, .slice Al s.lv.length cl, .slice Am s.ms.length cm, .slice At s.ts.length ct, .slice Ab s.bd.length cb] (0, 0) _ rfl HFF.out Try.underlying50 rfl (by kernel_rfl)) rfl ?_
  exact ⟨_, rfl, HST.out, HBF.out⟩
end Go.Proofs.Ytenijmalcchciaa.U
set_option linter.unusedVariables false
set_option linter.unusedSimpArgs false
namespace Go.Proofs.Ytenijmalcchciaa.U
open Go.RowKit Go.Lib Go.Proofs.YtenijmalcchciaaW.PrintWords
set_option maxHeartbeats 4000000 in
theorem impl_hasFace_yes (x : Value) (s : Sta) (i : Nat) (w : World) (hx : StR w x s) (hok : staOk s.ro s.lv s.ms s.ts s.bd = true) (hi : i + 1 < s.lv.length) :
  Calls Try.prog 62 #[x, .int .i64 i] w fun e w' => e = .returned (.bool true) ∧ Bw w w' := by
 have hmx := (StF.of hok).n
 obtain ⟨A0, c0, A1, c1, A2, c2, A3, c3, rfl, r0, r1, r2, r3⟩ := hx
 have b0 := Bw.box1 w (.cells #[.int .i64 s.ro, .slice A0 s.lv.length c0, .slice A1 s.ms.length c1, .slice A2 s.ts.length c2, .slice A3 s.bd.length c3] 50)
 have g0 := box_cell (Bw.refl (w.alloc (.cells #[.int .i64 s.ro, .slice A0 s.lv.length c0, .slice A1 s.ms.length c1, .slice A2 s.ts.length c2, .slice A3 s.bd.length c3] 50))) 0
 have g1 := box_cell (Bw.refl (w.alloc (.cells #[.int .i64 s.ro, .slice A0 s.lv.length c0, .slice A1 s.ms.length c1, .slice A2 s.ts.length c2, .slice A3 s.bd.length c3] 50))) 1
 have g2 := box_cell (Bw.refl (w.alloc (.cells #[.int .i64 s.ro, .slice A0 s.lv.length c0, .slice A1 s.ms.length c1, .slice A2 s.ts.length c2, .slice A3 s.bd.length c3] 50))) 2
 have g3 := box_cell (Bw.refl (w.alloc (.cells #[.int .i64 s.ro, .slice A0 s.lv.length c0, .slice A1 s.ms.length c1, .slice A2 s.ts.length c2, .slice A3 s.bd.length c3] 50))) 3
 have g4 := box_cell (Bw.refl (w.alloc (.cells #[.int .i64 s.ro, .slice A0 s.lv.length c0, .slice A1 s.ms.length c1, .slice A2 s.ts.length c2, .slice A3 s.bd.length c3] 50))) 4
 simp only [List.getElem?_toArray, List.getElem?_cons_zero, List.getElem?_cons_succ] at g0 g1 g2 g3 g4
 have hin : inR (i : Int) 0 ((s.lv.length : Int) - 2) = true := inR_iff.2 (by omega)
 have HOK := hid hok
 have HIN := hid hin
 have e1 : IntKind.i64.wrap ((s.lv.length : Int) - 2) = (s.lv.length : Int) - 2 := i64w (by omega) (by omega)
 clear hok hin
 go_enter Try.func62, Try.ntmps62
 go_upto_region 1 with fail
 generalize (w.alloc (.cells #[.int .i64 s.ro, .slice A0 s.lv.length c0, .slice A1 s.ms.length c1, .slice A2 s.ts.length c2, .slice A3 s.bd.length c3] 50)) = W1 at *
 go_wp2_with fail
 refine (impl_StateOk s.ro A0 _ c0 s.lv A1 _ c1 s.ms A2 _ c2 s.ts A3 _ c3 s.bd _ (r0.to b0) (r1.to b0) (r2.to b0) (r3.to b0)).mono ?_
 rintro e w4 ⟨rfl, b4⟩
 rw [HOK.out]
 replace g0 := pw_cell_below b4.out g0
 replace g1 := pw_cell_below b4.out g1
 replace g2 := pw_cell_below b4.out g2
 replace g3 := pw_cell_below b4.out g3
 replace g4 := pw_cell_below b4.out g4
 have hB := b0.trans b4
 go_wp2_with fail
 refine (within _ _ _ _).mono ?_
 rintro e w5 ⟨rfl, rfl⟩
 rw [HIN.out]
 go_wp2
 go_ret
 exact ⟨rfl, hB⟩
theorem fl_yes {s : Sta} {t : Int} {i : Nat} (h : i + 1 < s.lv.length) (ha : actB t (faceL s.lv i) = true) : fl s t i = fluxS s i := if_pos ⟨h, ha⟩
theorem fl_no {s : Sta} {t : Int} {i : Nat} (ha : actB t (faceL s.lv i) = false) : fl s t i = 0 := if_neg (by rw [ha]; simp)
set_option maxHeartbeats 8000000 in
set_option maxRecDepth 100000 in
theorem impl_FluxSum (x : Value) (s : Sta) (i : Nat) (w : World) (hx : StR w x s) (hok : staOk s.ro s.lv s.ms s.ts s.bd = true) (hi : i + 1 < s.lv.length) :
  Calls Try.prog 28 #[x, .int .i64 i] w fun e w' => e = .returned (.int .i64 (fsum s i 16)) ∧ Bw w w' := by
 have hs := StG.of hok
 have hmx := hs.f.n
 have HX := hid hx
 have HL := hid (show s.lv.length ≤ 1000000 ∧ s.ms.length ≤ 1000000000 ∧ s.ts.length ≤ 1000000000 ∧ s.bd.length ≤ 1000000000 from ⟨by omega, by rw [hs.f.ms]; omega, by rw [hs.f.ts]; omega, by have := hs.f.bd; omega⟩)
 obtain ⟨A0, c0, A1, c1, A2, c2, A3, c3, rfl, r0, r1, r2, r3⟩ := hx
 have b0 := Bw.box1 w (.cells #[.int .i64 s.ro, .slice A0 s.lv.length c0, .slice A1 s.ms.length c1, .slice A2 s.ts.length c2, .slice A3 s.bd.length c3] 50)
 have g0 := box_cell (Bw.refl (w.alloc (.cells #[.int .i64 s.ro, .slice A0 s.lv.length c0, .slice A1 s.ms.length c1, .slice A2 s.ts.length c2, .slice A3 s.bd.length c3] 50))) 0
 have g1 := box_cell (Bw.refl (w.alloc (.cells #[.int .i64 s.ro, .slice A0 s.lv.length c0, .slice A1 s.ms.length c1, .slice A2 s.ts.length c2, .slice A3 s.bd.length c3] 50))) 1
 have g2 := box_cell (Bw.refl (w.alloc (.cells #[.int .i64 s.ro, .slice A0 s.lv.length c0, .slice A1 s.ms.length c1, .slice A2 s.ts.length c2, .slice A3 s.bd.length c3] 50))) 2
 have g3 := box_cell (Bw.refl (w.alloc (.cells #[.int .i64 s.ro, .slice A0 s.lv.length c0, .slice A1 s.ms.length c1, .slice A2 s.ts.length c2, .slice A3 s.bd.length c3] 50))) 3
 have g4 := box_cell (Bw.refl (w.alloc (.cells #[.int .i64 s.ro, .slice A0 s.lv.length c0, .slice A1 s.ms.length c1, .slice A2 s.ts.length c2, .slice A3 s.bd.length c3] 50))) 4
 simp only [List.getElem?_toArray, List.getElem?_cons_zero, List.getElem?_cons_succ] at g0 g1 g2 g3 g4
 have HOK := hid hok
 have HSAME := hid (macS_same s)
 have HFR := hid (fsum_range hok i (by omega))
 clear hok
 go_enter Try.func28, Try.ntmps28
 have hsz0 : (w.alloc (.cells #[.int .i64 s.ro, .slice A0 s.lv.length c0, .slice A1 s.ms.length c1, .slice A2 s.ts.length c2, .slice A3 s.bd.length c3] 50)).heap.size = w.heap.size + 1 := by simp
 have HSZ0 := hid hsz0
 clear hsz0
 go_upto_region 1 with fail
 generalize (w.alloc (.cells #[.int .i64 s.ro, .slice A0 s.lv.length c0, .slice A1 s.ms.length c1, .slice A2 s.ts.length c2, .slice A3 s.bd.length c3] 50)) = W1 at *
 go_wp2_with fail
 refine (impl_hasFace_yes _ s i _ (HX.out.to b0) HOK.out hi).mono ?_
 rintro e w2 ⟨rfl, b2⟩
 replace g0 := pw_cell_below b2.out g0
 replace g1 := pw_cell_below b2.out g1
 replace g2 := pw_cell_below b2.out g2
 replace g3 := pw_cell_below b2.out g3
 replace g4 := pw_cell_below b2.out g4
 have hK2 := b0.trans b2
 have hs2 : w.heap.size + 1 ≤ w2.heap.size := by have := b2.size; have := HSZ0.out; omega
 clear b0 b2 HSZ0
 go_wp2_with fail
 refine (impl_copyState _ s _ (HX.out.to hK2) HL.out.1 HL.out.2.1 HL.out.2.2.1 HL.out.2.2.2).mono ?_
 rintro e w3 ⟨v, rfl, hO, b3⟩
 obtain ⟨vl, vm, vt, vb, rfl, hl, hm, ht_, hb, ap⟩ := hO
 obtain ⟨Al, cl, rfl, _, _⟩ := hl.reads
 obtain ⟨Am, cm, rfl, _, _⟩ := hm.reads
 obtain ⟨At, ct, rfl, _, _⟩ := ht_.reads
 obtain ⟨Ab, cb, rfl, _, _⟩ := hb.reads
 have bx := Bw.box1 w3 (.cells #[.int .i64 s.ro, .slice Al s.lv.length cl, .slice Am s.ms.length cm, .slice At s.ts.length ct, .slice Ab s.bd.length cb] 50)
 have HP0 := hid (heap_alloc_new w3 (.cells #[.int .i64 s.ro, .slice Al s.lv.length cl, .slice Am s.ms.length cm, .slice At s.ts.length ct, .slice Ab s.bd.length cb] 50 (0, 0)))
 have hO2 : StO w3 w2.heap.size w3.heap.size (.agg #[.int .i64 s.ro, .slice Al s.lv.length cl, .slice Am s.ms.length cm, .slice At s.ts.length ct, .slice Ab s.bd.length cb]) s := ⟨_, _, _, _, rfl, hl, hm, ht_, hb, ap⟩
 have HO0 := hid (hO2.to bx)
 have HK := hid (hK2.trans (b3.trans bx))
 replace g0 := pw_cell_below (b3.trans bx).out g0
 replace g1 := pw_cell_below (b3.trans bx).out g1
 replace g2 := pw_cell_below (b3.trans bx).out g2
 replace g3 := pw_cell_below (b3.trans bx).out g3
 replace g4 := pw_cell_below (b3.trans bx).out g4
 have hP1 : w3.heap.size + 1 ≤ (w3.alloc (.cells #[.int .i64 s.ro, .slice Al s.lv.length cl, .slice Am s.ms.length cm, .slice At s.ts.length ct, .slice Ab s.bd.length cb] 50)).heap.size := by simp
 have hs3 := b3.size
 clear hO2 hl hm ht_ hb bx b3 ap hK2
 go_upto_region 4 with fail
 generalize (w3.alloc (.cells #[.int .i64 s.ro, .slice Al s.lv.length cl, .slice Am s.ms.length cm, .slice At s.ts.length ct, .slice Ab s.bd.length cb] 50)) = W3 at *
 generalize w3.heap.size = P at *
 generalize w2.heap.size = lo at *
 have K_g0 := hid g0
 have K_g1 := hid g1
 have K_g2 := hid g2
 have K_g3 := hid g3
 have K_g4 := hid g4
 clear g0 g1 g2 g3 g4
 go_wp2
 go_loopw [6, 14] (fun v6 v14 wr => ∃ k : Nat, k ≤ 16 ∧ v14 = .int .i64 k ∧ v6 = .int .i64 (fsum s i k) ∧ Hid (wr.heap[P]? = some (.cells #[.int .i64 s.ro, .slice Al s.lv.length cl, .slice Am s.ms.length cm, .slice At s.ts.length ct, .slice Ab s.bd.length cb] 50 (0, 0))) ∧ Hid (StO wr lo P (.agg #[.int .i64 s.ro, .slice Al s.lv.length cl, .slice Am s.ms.length cm, .slice At s.ts.length ct, .slice Ab s.bd.length cb]) (macS s k)) ∧ Hid (Wi W3 wr lo P)) (fun _ v14 _ => 16 - (intOf v14).toNat)
 case atStart => exact ⟨0, by omega, rfl, rfl, HP0, HO0, hid (Wi.refl _ _ _)⟩
 case round =>
  obtain ⟨k, hk, rfl, rfl, hB, hS, hW⟩ := hrel
  by_cases hlt : k < 16
  ·have t1 : decide ((k : Int) < 16) = true := decide_eq_true (by omega)
   have t2 : decide (k < 16) = true := decide_eq_true (by omega)
   have e1 : IntKind.i64.wrap ((k : Int) + 1) = (k : Int) + 1 := i64w (by omega) (by omega)
   have hsz : P ≤ wr.heap.size := by have := hW.out.size; clear e1; omega
   have hkk := hid (show k + 1 ≤ 16 ∧ 16 - (k + 1) < 16 - k by clear e1; omega)
   have HKr := hid (HK.out.then_wi hW.out (by clear e1; omega))
   have hlen := macS_len HOK.out k
   have hfs : fsum s i (k + 1) = fsum s i k + fl (macS s k) (k : Int) i := rfl
   have hfr := HFR.out k
   have hfl := fl_bd (StF.of (macS_ok HOK.out k)) (k : Int) i (by rw [hlen.1]; clear e1; omega)
   obtain ⟨fk, hfk⟩ : ∃ fk, fsum s i k = fk := ⟨_, rfl⟩
   obtain ⟨fn, hfn⟩ : ∃ fn, fsum s i (k + 1) = fn := ⟨_, rfl⟩
   rw [hfk] at hfs hfr
   rw [hfk]
   rw [hfn] at hfs
   have HLN := hid hlen
   have HFS := hid hfs
   have HFN := hid hfn
   have HFB := hid (And.intro hfr hfl)
   clear hlen hfs hfr hfl hfk hfn
   have g0 := cell_wi hW.out K_g0.out (by show ¬ (lo ≤ w.heap.size ∧ w.heap.size < P); clear e1; omega)
   have g1 := cell_wi hW.out K_g1.out (by show ¬ (lo ≤ w.heap.size ∧ w.heap.size < P); clear e1; omega)
   have g2 := cell_wi hW.out K_g2.out (by show ¬ (lo ≤ w.heap.size ∧ w.heap.size < P); clear e1; omega)
   have g3 := cell_wi hW.out K_g3.out (by show ¬ (lo ≤ w.heap.size ∧ w.heap.size < P); clear e1; omega)
   have g4 := cell_wi hW.out K_g4.out (by show ¬ (lo ≤ w.heap.size ∧ w.heap.size < P); clear e1; omega)
   go_wp2_with fail
   refine (impl_faceLevel s.ro A0 _ c0 s.lv i _ (r0.to HKr.out) hi).mono ?_
   rintro e w4 ⟨rfl, b4⟩
   go_wp2_with fail
   refine (impl_IsActive (k : Int) (faceL s.lv i) _ (by clear e1; omega)).mono ?_
   rintro e w5 ⟨rfl, rfl⟩
   have hB5 := hid ((b4.out.block _ (blk_lt hB.out)).trans hB.out)
   have hS5 := hid (hS.out.to b4)
   have hW5 := hid (hW.out.trans (b4.wi lo P))
   have hK5 := hid (HKr.out.trans b4)
   have hsz5 : P ≤ w4.heap.size := by have := b4.size; clear e1; omega
   replace g0 := pw_cell_below b4.out g0
   replace g1 := pw_cell_below b4.out g1
   replace g2 := pw_cell_below b4.out g2
   replace g3 := pw_cell_below b4.out g3
   replace g4 := pw_cell_below b4.out g4
   clear hB hS hW HKr b4
   cases ha : actB (k : Int) (faceL s.lv i) with
   | false =>
    have hfn : fsum s i (k + 1) = fk := by
     rw [HFN.out, HFS.out, fl_no (by rw [(HSAME.out k).2.1]; exact ha)]
     exact Int.add_zero _
    have HFN2 := hid hfn
    clear ha hfn
    generalize w4 = w6 at *
    have hone := hs.one
    have hG := StG.of (macS_ok HOK.out k)
    go_wp2_with fail
    refine (impl_active s.ro A0 _ c0 s.lv (k : Int) _ (r0.to hK5.out) hone (by clear e1; omega) (by clear e1; omega)).mono ?_
    rintro e w7 ⟨v, rfl, o7, b7⟩
    obtain ⟨F, cf, rfl, hF⟩ := o7.reads
    have hB7 := hid ((b7.out.block _ (blk_lt hB5.out)).trans hB5.out)
    have hS7 := hid (hS5.out.to b7)
    have hW7 := hid (hW5.out.trans (b7.wi lo P))
    have hsz7 : P ≤ w7.heap.size := by have := b7.size; clear e1; omega
    clear hB5 hS5 hW5 hK5 o7 b7 g0 g1 g2 g3 g4
    go_wp2_with fail
    refine (move_StO P lo P (macS s k) (k : Int) (.slice Al s.lv.length cl) (.slice Am s.ms.length cm) (.slice At s.ts.length ct) (.slice Ab s.bd.length cb) F _ cf w7 (by rw [(HSAME.out k).1]; exact hB7.out) hG (by rw [(HSAME.out k).1]; exact hS7.out) hsz7 (by rw [(HSAME.out k).2.1]; exact hF)).mono ?_
    rintro e w8 ⟨u, rfl, hk8, hO8, z8⟩
    rw [(HSAME.out k).1] at hk8 hO8
    have hB8 := hid hk8
    have hS8 := hid (show StO w8 lo P (.agg #[.int .i64 s.ro, .slice Al s.lv.length cl, .slice Am s.ms.length cm, .slice At s.ts.length ct, .slice Ab s.bd.length cb]) (macS s (k + 1)) from hO8)
    have hW8 := hid (hW7.out.trans z8)
    clear hk8 hO8 z8 hB7 hS7 hW7 hF hG
    go_wp2
    go_roundw
    case rel => exact ⟨k + 1, hkk.out.1, by go_num, congrArg (Value.int .i64) HFN2.out.symm, hB8, hS8, hW8⟩
    case measure => simp [intOf]; clear e1; omega
   | true =>
    have hfx : fl (macS s k) (k : Int) i = fluxS (macS s k) i := fl_yes (by rw [HLN.out.1]; exact hi) (by rw [(HSAME.out k).2.1]; exact ha)
    obtain ⟨y, hy⟩ : ∃ y, fluxS (macS s k) i = y := ⟨_, rfl⟩
    have hyb := HFB.out
    rw [hfx, hy] at hyb
    have hfs := HFS.out
    rw [hfx, hy] at hfs
    have HFN2 := HFN
    have HY := hid hy
    have e3 : IntKind.i64.wrap (fk + y) = fn := by rw [hfs]; exact i64w (by clear e1 hfs; omega) (by clear e1 hfs; omega)
    clear ha hfx hy hfs hyb
    have p0 := (blk_cell hB5.out 0).trans (show _ = some (Value.int .i64 s.ro) from rfl)
    have p1 := (blk_cell hB5.out 1).trans (show _ = some (Value.slice Al s.lv.length cl) from rfl)
    have p2 := (blk_cell hB5.out 2).trans (show _ = some (Value.slice Am s.ms.length cm) from rfl)
    have p3 := (blk_cell hB5.out 3).trans (show _ = some (Value.slice At s.ts.length ct) from rfl)
    have p4 := (blk_cell hB5.out 4).trans (show _ = some (Value.slice Ab s.bd.length cb) from rfl)
    go_wp2_with fail
    refine (impl_stFlux _ (macS s k) i _ (by rw [show (.agg #[.int .i64 s.ro, .slice Al s.lv.length cl, .slice Am s.ms.length cm, .slice At s.ts.length ct, .slice Ab s.bd.length cb] : Value) = .agg #[.int .i64 s.ro, .slice Al s.lv.length cl, .slice Am s.ms.length cm, .slice At s.ts.length ct, .slice Ab s.bd.length cb] from rfl]; exact hS5.out.r) (StF.of (macS_ok HOK.out k)) (by rw [HLN.out.1]; exact hi)).mono ?_
    rintro e w6 ⟨rfl, b6⟩
    rw [HY.out]
    replace hB5 := hid ((b6.out.block _ (blk_lt hB5.out)).trans hB5.out)
    replace hS5 := hid (hS5.out.to b6)
    replace hW5 := hid (hW5.out.trans (b6.wi lo P))
    replace hK5 := hid (hK5.out.trans b6)
    replace hsz5 : P ≤ w6.heap.size := by have := b6.size; clear e1 e3; omega
    replace g0 := pw_cell_below b6.out g0
    replace g1 := pw_cell_below b6.out g1
    replace g2 := pw_cell_below b6.out g2
    replace g3 := pw_cell_below b6.out g3
    replace g4 := pw_cell_below b6.out g4
    clear b6 p0 p1 p2 p3 p4
    go_upto_region 10 with fail
    clear e3
    have hone := hs.one
    have hG := StG.of (macS_ok HOK.out k)
    go_wp2_with fail
    refine (impl_active s.ro A0 _ c0 s.lv (k : Int) _ (r0.to hK5.out) hone (by clear e1; omega) (by clear e1; omega)).mono ?_
    rintro e w7 ⟨v, rfl, o7, b7⟩
    obtain ⟨F, cf, rfl, hF⟩ := o7.reads
    have hB7 := hid ((b7.out.block _ (blk_lt hB5.out)).trans hB5.out)
    have hS7 := hid (hS5.out.to b7)
    have hW7 := hid (hW5.out.trans (b7.wi lo P))
    have hsz7 : P ≤ w7.heap.size := by have := b7.size; clear e1; omega
    clear hB5 hS5 hW5 hK5 o7 b7 g0 g1 g2 g3 g4
    go_wp2_with fail
    refine (move_StO P lo P (macS s k) (k : Int) (.slice Al s.lv.length cl) (.slice Am s.ms.length cm) (.slice At s.ts.length ct) (.slice Ab s.bd.length cb) F _ cf w7 (by rw [(HSAME.out k).1]; exact hB7.out) hG (by rw [(HSAME.out k).1]; exact hS7.out) hsz7 (by rw [(HSAME.out k).2.1]; exact hF)).mono ?_
    rintro e w8 ⟨u, rfl, hk8, hO8, z8⟩
    rw [(HSAME.out k).1] at hk8 hO8
    have hB8 := hid hk8
    have hS8 := hid (show StO w8 lo P (.agg #[.int .i64 s.ro, .slice Al s.lv.length cl, .slice Am s.ms.length cm, .slice At s.ts.length ct, .slice Ab s.bd.length cb]) (macS s (k + 1)) from hO8)
    have hW8 := hid (hW7.out.trans z8)
    clear hk8 hO8 z8 hB7 hS7 hW7 hF hG
    go_wp2
    go_roundw
    case rel => exact ⟨k + 1, hkk.out.1, by go_num, congrArg (Value.int .i64) HFN2.out.symm, hB8, hS8, hW8⟩
    case measure => simp [intOf]; clear e1; omega
  ·obtain rfl : k = 16 := by omega
   have t1 : decide (((16 : Nat) : Int) < 16) = false := decide_eq_false (by omega)
   have hB9 := HK.out.then_wi hW.out (by omega)
   go_wp2
   go_ret
   exact ⟨rfl, hB9⟩
end Go.Proofs.Ytenijmalcchciaa.U
