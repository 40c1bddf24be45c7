/- The row of the law FnRest: for every input the call returns true, and each argument reads afterwards as it read before. -/
import Derived.Test.YtenijmalcchciaaG14
import Derived.Test.YtenijmalcchciaaG6
import Derived.Test.YtenijmalcchciaaG13
import Derived.Test.YtenijmalcchciaaG16
import Derived.Test.YtenijmalcchciaaG17
import Derived.Test.YtenijmalcchciaaG10
import Derived.Test.YtenijmalcchciaaG8
import Derived.Test.YtenijmalcchciaaRows
import Derived.ProofKit
import Derived.OpenShut
import Derived.ShutString
import Derived.ChangeOld
import Derived.Below
import Derived.SizedLaws
import Derived.Test.YtenijmalcchciaaWSized
set_option linter.unusedVariables false
set_option linter.unusedSimpArgs false
namespace Go.Proofs.Ytenijmalcchciaa.U
open Go.RowKit Go.Lib Go.Proofs.YtenijmalcchciaaW.PrintWords
open Go.Proofs.YtenijmalcchciaaW.PrintLast Go.Proofs.YtenijmalcchciaaW.PrintMore
theorem rowOf_snocR (k : Nat) (f : Nat → Int) : rowOf (k + 1) f = rowOf k f ++ [f k] := by
 rw [rowOf, rowOf, List.range_succ, List.map_append]
 rfl
set_option maxHeartbeats 4000000 in
set_option maxRecDepth 100000 in
theorem impl_AllFluxes (x : Value) (s : Sta) (w : World) (hx : StR w x s) (hok : staOk s.ro s.lv s.ms s.ts s.bd = true) :
  Calls Try.prog 68 #[x] w fun e w' => ∃ v, e = .returned v ∧ OI w' w.heap.size v (s.lv.length - 1) (rowOf (s.lv.length - 1) (fluxS s)) ∧ Bw w w' := by
 have hs := StG.of hok
 have hn := hs.f.n
 have hone := hs.one
 have HX := hid hx
 obtain ⟨A0, c0, A1, c1, A2, c2, A3, c3, rfl, r0, r1, r2, r3⟩ := hx
 have b0 := Bw.box1 w (.cells #[.int .i64 s.ro, .slice A0 s.lv.length c0, .slice A1 s.ms.length c1, .slice A2 s.ts.length c2, .slice A3 s.bd.length c3] 50)
 have g0 := box_cell (Bw.refl (w.alloc (.cells #[.int .i64 s.ro, .slice A0 s.lv.length c0, .slice A1 s.ms.length c1, .slice A2 s.ts.length c2, .slice A3 s.bd.length c3] 50))) 0
 have g1 := box_cell (Bw.refl (w.alloc (.cells #[.int .i64 s.ro, .slice A0 s.lv.length c0, .slice A1 s.ms.length c1, .slice A2 s.ts.length c2, .slice A3 s.bd.length c3] 50))) 1
 have g2 := box_cell (Bw.refl (w.alloc (.cells #[.int .i64 s.ro, .slice A0 s.lv.length c0, .slice A1 s.ms.length c1, .slice A2 s.ts.length c2, .slice A3 s.bd.length c3] 50))) 2
 have g3 := box_cell (Bw.refl (w.alloc (.cells #[.int .i64 s.ro, .slice A0 s.lv.length c0, .slice A1 s.ms.length c1, .slice A2 s.ts.length c2, .slice A3 s.bd.length c3] 50))) 3
 have g4 := box_cell (Bw.refl (w.alloc (.cells #[.int .i64 s.ro, .slice A0 s.lv.length c0, .slice A1 s.ms.length c1, .slice A2 s.ts.length c2, .slice A3 s.bd.length c3] 50))) 4
 simp only [List.getElem?_toArray, List.getElem?_cons_zero, List.getElem?_cons_succ] at g0 g1 g2 g3 g4
 have hk0 := heap_alloc_new w (.cells #[.int .i64 s.ro, .slice A0 s.lv.length c0, .slice A1 s.ms.length c1, .slice A2 s.ts.length c2, .slice A3 s.bd.length c3] 50 (0, 0))
 have HOK := hid hok
 have em : IntKind.i64.wrap ((s.lv.length : Int) - 1) = ((s.lv.length - 1 : Nat) : Int) := (i64w (by omega) (by omega)).trans (by omega)
 have hsz0 : (w.alloc (.cells #[.int .i64 s.ro, .slice A0 s.lv.length c0, .slice A1 s.ms.length c1, .slice A2 s.ts.length c2, .slice A3 s.bd.length c3] 50)).heap.size = w.heap.size + 1 := by simp
 clear hok
 go_enter Try.func68, Try.ntmps68
 go_upto_region 1 with fail
 generalize (w.alloc (.cells #[.int .i64 s.ro, .slice A0 s.lv.length c0, .slice A1 s.ms.length c1, .slice A2 s.ts.length c2, .slice A3 s.bd.length c3] 50)) = W1 at *
 go_wp2_with fail
 refine (impl_StateOk s.ro A0 _ c0 s.lv A1 _ c1 s.ms A2 _ c2 s.ts A3 _ c3 s.bd _ (r0.to b0) (r1.to b0) (r2.to b0) (r3.to b0)).mono ?_
 rintro e w2 ⟨rfl, b2⟩
 rw [HOK.out]
 have bL := Bw.box1 w2 (.cells #[] 3)
 replace g0 := pw_cell_below (b2.trans bL).out g0
 replace g1 := pw_cell_below (b2.trans bL).out g1
 replace g2 := pw_cell_below (b2.trans bL).out g2
 replace g3 := pw_cell_below (b2.trans bL).out g3
 replace g4 := pw_cell_below (b2.trans bL).out g4
 have HB0 := hid ((b0.trans b2).trans bL)
 have HK0 := hid (((b2.trans bL).out.block _ (blk_lt hk0)).trans hk0)
 have hO0 := hid (show OI (w2.alloc (.cells #[] 3)) w.heap.size (.slice (some ⟨w2.heap.size, 0, none⟩) 0 0) 0 (rowOf 0 (fluxS s)) from OI.lit0 w2 w.heap.size (b0.trans b2).size)
 clear b0 b2 bL hk0 hsz0
 go_upto_region 4 with fail
 generalize (w2.alloc (.cells #[] 3)) = W3 at *
 go_wp2
 clear g0 g1 g2 g3 g4
 go_loopw [3, 14] (fun v3 v14 wr => ∃ j : Nat, j ≤ s.lv.length - 1 ∧ v14 = .int .i64 j ∧ Hid (OI wr w.heap.size v3 j (rowOf j (fluxS s))) ∧ Hid (Bw w wr) ∧ Hid (wr.heap[w.heap.size]? = some (.cells #[.int .i64 s.ro, .slice A0 s.lv.length c0, .slice A1 s.ms.length c1, .slice A2 s.ts.length c2, .slice A3 s.bd.length c3] 50 (0, 0)))) (fun _ v14 _ => s.lv.length - (intOf v14).toNat)
 case atStart => exact ⟨0, by omega, rfl, hO0, HB0, HK0⟩
 case round =>
  obtain ⟨j, hj, rfl, hO, hB, hK⟩ := hrel
  clear em
  by_cases hlt : j < s.lv.length - 1
  ·have t1 : decide ((j : Int) < ((s.lv.length - 1 : Nat) : Int)) = true := decide_eq_true (by omega)
   have t2 : decide (j < s.lv.length - 1) = true := decide_eq_true hlt
   have e1 : IntKind.i64.wrap ((j : Int) + 1) = (j : Int) + 1 := i64w (by omega) (by omega)
   have hkk := hid (show j + 1 ≤ s.lv.length - 1 ∧ s.lv.length - (j + 1) < s.lv.length - j by clear e1; omega)
   have k0 := (blk_cell hK.out 0).trans (show _ = some (Value.int .i64 s.ro) from rfl)
   have k1 := (blk_cell hK.out 1).trans (show _ = some (Value.slice A0 s.lv.length c0) from rfl)
   have k2 := (blk_cell hK.out 2).trans (show _ = some (Value.slice A1 s.ms.length c1) from rfl)
   have k3 := (blk_cell hK.out 3).trans (show _ = some (Value.slice A2 s.ts.length c2) from rfl)
   have k4 := (blk_cell hK.out 4).trans (show _ = some (Value.slice A3 s.bd.length c3) from rfl)
   go_wp2_with fail
   refine (impl_stFlux _ s j _ (HX.out.to hB.out) hs.f (by clear e1; omega)).mono ?_
   rintro e w4 ⟨rfl, b4⟩
   have hO4 := hid (hO.out.to b4)
   have hB4 := hid (hB.out.trans b4)
   have hK4 := hid ((b4.out.block _ (blk_lt hK.out)).trans hK.out)
   have hlen := rowOf_len j (fluxS s)
   have HLEN := hid hlen
   clear hO hB hK b4 k0 k1 k2 k3 k4 hlen
   obtain ⟨Ao, co, rfl, _⟩ := hO4.out.reads
   have hO5 := hid (show OI w4 w.heap.size (.slice Ao j co) (rowOf j (fluxS s)).length (rowOf j (fluxS s)) by rw [HLEN.out]; exact hO4.out)
   go_wp2_with (at_builtin; refine print_append_num (w0 := w) w.heap.size rfl _ _ 31 3 .i64 8 rfl Try.underlying31 info_int (by omega) (.slice Ao j co) (rowOf j (fluxS s)) (fluxS s j) rfl rfl hO5.out.out hB4.out.out hB4.out.size (by clear e1; have := HLEN.out; omega) ?_; intro v1 w5 hown1 hB1 hg1 _)
   have hK5 := hid (blk_grown hK4.out hg1 (own_ne hO4.out.out hK4.out (by decide)))
   have hO6 := hid (show OI w5 w.heap.size v1 (j + 1) (rowOf (j + 1) (fluxS s)) from ⟨by have h := hown1; rw [← rowOf_snocR, rowOf_len] at h; exact h⟩)
   go_roundw
   case rel => exact ⟨j + 1, hkk.out.1, by go_num, hO6, hid ⟨hB1⟩, hK5⟩
   case measure => simp [intOf]; clear e1; omega
  ·obtain rfl : j = s.lv.length - 1 := by omega
   have t1 : decide (((s.lv.length - 1 : Nat) : Int) < ((s.lv.length - 1 : Nat) : Int)) = false := decide_eq_false (by omega)
   have t2 : decide (s.lv.length - 1 < s.lv.length - 1) = false := decide_eq_false (by omega)
   go_wp2
   go_ret
   exact ⟨_, rfl, hO.out, hB.out⟩
end Go.Proofs.Ytenijmalcchciaa.U
set_option linter.unusedVariables false
set_option linter.unusedSimpArgs false
namespace Go.Proofs.Ytenijmalcchciaa.U
open Go.RowKit Go.Lib Go.Proofs.YtenijmalcchciaaW.PrintWords
open Go.Proofs.YtenijmalcchciaaW.PrintLast Go.Proofs.YtenijmalcchciaaW.PrintMore
noncomputable def restB (s : Sta) : Bool := @decide (∀ i, i < s.lv.length - 1 → fluxS s i = 0) (Classical.propDecidable _)
theorem restB_yes {s : Sta} (h : ∀ i, i < s.lv.length - 1 → fluxS s i = 0) : restB s = true := by unfold restB; exact @decide_eq_true _ (Classical.propDecidable _) h
theorem restB_no {s : Sta} {i : Nat} (hi : i < s.lv.length - 1) (h : fluxS s i ≠ 0) : restB s = false := by unfold restB; exact @decide_eq_false _ (Classical.propDecidable _) (fun k => h (k i hi))
theorem restB_iff {s : Sta} : restB s = true ↔ ∀ i, i < s.lv.length - 1 → fluxS s i = 0 := by
 constructor
 ·intro h; by_cases hc : ∀ i, i < s.lv.length - 1 → fluxS s i = 0
  ·exact hc
  ·unfold restB at h; rw [@decide_eq_false _ (Classical.propDecidable _) hc] at h; cases h
 ·exact restB_yes
theorem rest_step {s : Sta} (hs : StF s) (h : restB s = true) (t : Int) : (stepS s t).ms = s.ms ∧ (stepS s t).ts = s.ts := by
 have h0 := restB_iff.1 h
 have hfl : ∀ i, fl s t i = 0 := fun i => by
  unfold fl
  split
  ·rename_i k; exact h0 i (by omega)
  ·rfl
 have hfL : ∀ i, flL s t i = 0 := fun i => by cases i with
  | zero => rfl
  | succ i => exact hfl i
 have hA : ∀ i, oA s t i = 0 := fun i => oA_zero s t i (by rw [hfl]; omega)
 have hB : ∀ i, oB s t i = 0 := fun i => oB_zero s t i (by rw [hfL]; omega)
 have hAL : ∀ i, oAL s t i = 0 := fun i => by cases i with
  | zero => rfl
  | succ i => exact hA i
 have e1 : (stepS s t).ms = rowOf s.lv.length (stM s t) := rfl
 have e2 : (stepS s t).ts = rowOf s.lv.length (stT s t) := rfl
 refine ⟨?_, ?_⟩
 ·rw [e1, rowOf_congr (g := fun j => rd s.ms (j : Int)) (fun j _ => by rw [stM, hfl, hfL]; omega)]
  exact rowOf_self hs.ms
 ·rw [e2, rowOf_congr (g := fun j => rd s.ts (j : Int)) (fun j _ => by rw [stT, hA, hB, hAL, hB]; split <;> omega)]
  exact rowOf_self hs.ts
def dryL (ms : List Int) : Nat → List Int
 | 0 => []
 | k + 1 => if rd ms (k : Int) = 0 then dryL ms k ++ [(k : Int)] else dryL ms k
def dryN (ms : List Int) : Nat → Nat
 | 0 => 0
 | k + 1 => if rd ms (k : Int) = 0 then dryN ms k + 1 else dryN ms k
theorem dryL_len (ms : List Int) : ∀ k, (dryL ms k).length = dryN ms k
 | 0 => rfl
 | k + 1 => by
  rw [dryL, dryN]
  split
  ·rw [List.length_append, dryL_len ms k]; rfl
  ·exact dryL_len ms k
theorem dryN_le (ms : List Int) : ∀ k, dryN ms k ≤ k
 | 0 => Nat.le_refl _
 | k + 1 => by have := dryN_le ms k; rw [dryN]; split <;> omega
def wline (s : Sta) : Nat → Int × Int
 | 0 => (0, 0)
 | k + 1 => if rd s.ms (k : Int) = 0 then wline s k else (if (wline s k).2 = 0 then ceAt (gc s.lv k) else (wline s k).1, ceEnd (gc s.lv k))
theorem mesh_next {ro : Int} {l : List Ce} (h : meshOk ro l = true) : ∀ j, j < l.length → ceOk (gc l j) = true ∧ 0 ≤ ceAt (gc l j) ∧ 1 ≤ wid (gc l j).l ∧ (j = 0 ∨ ceAt (gc l j) = ceEnd (gc l (j - 1))) := by
 have hall := meshOk_all h
 have hm : ∃ e, meshEnd (l.drop 0) 0 = some e := by
  unfold meshOk at h
  cases he : meshEnd l 0 with
  | none => rw [he] at h; cases h
  | some a => exact ⟨a, he⟩
 obtain ⟨e, he⟩ := hm
 have key : ∀ j, j ≤ l.length → ∃ p, meshEnd (l.drop j) p = some e ∧ (p = 0 ∧ j = 0 ∨ 0 < j ∧ p = ceEnd (gc l (j - 1))) := fun j => by
  induction j with
  | zero => exact fun _ => ⟨0, he, Or.inl ⟨rfl, rfl⟩⟩
  | succ j ih =>
   intro hj
   obtain ⟨p, hp, _⟩ := ih (by omega)
   rw [meshEnd_drop (by omega)] at hp
   split at hp
   ·exact ⟨_, hp, Or.inr ⟨by omega, rfl⟩⟩
   ·cases hp
 intro j hj
 have hc := hall _ (gc_mem hj)
 have hf := ceOk_facts hc
 have hw : 1 ≤ wid (gc l j).l := by
  unfold wid
  have := hf.2.1
  (repeat' split) <;> omega
 have h0 : 0 ≤ (gc l j).i * wid (gc l j).l := Int.mul_nonneg hf.2.2.1.1 (by omega)
 have hat : ceAt (gc l j) = (gc l j).r * 16 + (gc l j).i * wid (gc l j).l := if_pos hc
 have hr := hf.1.1
 refine ⟨hc, by rw [hat]; omega, hw, ?_⟩
 obtain ⟨p, hp, hq⟩ := key j (by omega)
 rw [meshEnd_drop hj] at hp
 split at hp
 ·rename_i hk
  rcases hq with ⟨_, h2⟩ | ⟨_, h2⟩
  ·exact Or.inl h2
  ·exact Or.inr (by rw [hk.2, h2])
 ·cases hp
theorem wline_facts {s : Sta} (h : staOk s.ro s.lv s.ms s.ts s.bd = true) : ∀ k, k ≤ s.lv.length → 0 ≤ (wline s k).1 ∧ (wline s k).1 ≤ (wline s k).2 ∧ ((wline s k).2 = 0 ↔ dryN s.ms k = k) ∧ (k = 0 → (wline s k).2 = 0) ∧ (0 < k → (wline s k).2 ≤ ceEnd (gc s.lv (k - 1)))
 | 0, _ => ⟨Int.le_refl _, Int.le_refl _, ⟨fun _ => rfl, fun _ => rfl⟩, fun _ => rfl, fun h => by omega⟩
 | k + 1, hk => by
  have ih := wline_facts h k (by omega)
  have hm : meshOk s.ro s.lv = true := by simp only [staOk, isBal, Bool.and_eq_true] at h; exact h.1.1
  have hx := mesh_next hm k (by omega)
  have hd := dryN_le s.ms k
  have he : ceEnd (gc s.lv k) = ceAt (gc s.lv k) + wid (gc s.lv k).l := rfl
  have hprev : (wline s k).2 ≤ ceAt (gc s.lv k) := by
   by_cases h0 : k = 0
   ·rw [ih.2.2.2.1 h0]; exact hx.2.1
   ·rcases hx.2.2.2 with h1 | h1
    ·exact absurd h1 h0
    ·rw [h1]; exact ih.2.2.2.2 (by omega)
  rw [wline, dryN, Nat.add_sub_cancel]
  by_cases hz : rd s.ms (k : Int) = 0
  ·rw [if_pos hz, if_pos hz]
   refine ⟨ih.1, ih.2.1, ?_, fun h => by omega, fun _ => by omega⟩
   constructor
   ·intro h1; have := ih.2.2.1.1 h1; omega
   ·intro h1; exact ih.2.2.1.2 (by omega)
  ·rw [if_neg hz, if_neg hz]
   have h3 := ih.1
   have h4 := ih.2.1
   by_cases h2 : (wline s k).2 = 0
   ·simp only [h2, if_true]
    refine ⟨hx.2.1, by omega, ?_, fun h => by omega, fun _ => Int.le_refl _⟩
    constructor
    ·intro h1; omega
    ·intro h1; omega
   ·simp only [h2, if_false]
    refine ⟨h3, by omega, ?_, fun h => by omega, fun _ => Int.le_refl _⟩
    constructor
    ·intro h1; omega
    ·intro h1; omega
set_option maxHeartbeats 8000000 in
set_option maxRecDepth 100000 in
theorem impl_IsAtRest (x : Value) (s : Sta) (w : World) (hx : StR w x s) (hok : staOk s.ro s.lv s.ms s.ts s.bd = true) :
  Calls Try.prog 30 #[x] w fun e w' => e = .returned (.bool (restB s)) ∧ Bw w w' := by
 have hs := StG.of hok
 have hn := hs.f.n
 have hone := hs.one
 have HX := hid hx
 obtain ⟨A0, c0, A1, c1, A2, c2, A3, c3, rfl, r0, r1, r2, r3⟩ := hx
 have b0 := Bw.box1 w (.cells #[.int .i64 s.ro, .slice A0 s.lv.length c0, .slice A1 s.ms.length c1, .slice A2 s.ts.length c2, .slice A3 s.bd.length c3] 50)
 have g0 := box_cell (Bw.refl (w.alloc (.cells #[.int .i64 s.ro, .slice A0 s.lv.length c0, .slice A1 s.ms.length c1, .slice A2 s.ts.length c2, .slice A3 s.bd.length c3] 50))) 0
 have g1 := box_cell (Bw.refl (w.alloc (.cells #[.int .i64 s.ro, .slice A0 s.lv.length c0, .slice A1 s.ms.length c1, .slice A2 s.ts.length c2, .slice A3 s.bd.length c3] 50))) 1
 have g2 := box_cell (Bw.refl (w.alloc (.cells #[.int .i64 s.ro, .slice A0 s.lv.length c0, .slice A1 s.ms.length c1, .slice A2 s.ts.length c2, .slice A3 s.bd.length c3] 50))) 2
 have g3 := box_cell (Bw.refl (w.alloc (.cells #[.int .i64 s.ro, .slice A0 s.lv.length c0, .slice A1 s.ms.length c1, .slice A2 s.ts.length c2, .slice A3 s.bd.length c3] 50))) 3
 have g4 := box_cell (Bw.refl (w.alloc (.cells #[.int .i64 s.ro, .slice A0 s.lv.length c0, .slice A1 s.ms.length c1, .slice A2 s.ts.length c2, .slice A3 s.bd.length c3] 50))) 4
 simp only [List.getElem?_toArray, List.getElem?_cons_zero, List.getElem?_cons_succ] at g0 g1 g2 g3 g4
 have hk0 := heap_alloc_new w (.cells #[.int .i64 s.ro, .slice A0 s.lv.length c0, .slice A1 s.ms.length c1, .slice A2 s.ts.length c2, .slice A3 s.bd.length c3] 50 (0, 0))
 have HOK := hid hok
 clear hok
 go_enter Try.func30, Try.ntmps30
 go_upto_region 1 with fail
 generalize (w.alloc (.cells #[.int .i64 s.ro, .slice A0 s.lv.length c0, .slice A1 s.ms.length c1, .slice A2 s.ts.length c2, .slice A3 s.bd.length c3] 50)) = W1 at *
 go_wp2_with fail
 refine (impl_StateOk s.ro A0 _ c0 s.lv A1 _ c1 s.ms A2 _ c2 s.ts A3 _ c3 s.bd _ (r0.to b0) (r1.to b0) (r2.to b0) (r3.to b0)).mono ?_
 rintro e w2 ⟨rfl, b2⟩
 rw [HOK.out]
 replace g0 := pw_cell_below b2.out g0
 replace g1 := pw_cell_below b2.out g1
 replace g2 := pw_cell_below b2.out g2
 replace g3 := pw_cell_below b2.out g3
 replace g4 := pw_cell_below b2.out g4
 have hB2 := b0.trans b2
 clear b0 b2 hk0
 go_wp2_with fail
 refine (impl_AllFluxes _ s _ (HX.out.to hB2) HOK.out).mono ?_
 rintro e w3 ⟨v, rfl, hO, b3⟩
 obtain ⟨Ao, co, rfl, hrd⟩ := hO.reads
 have hB3 := hB2.trans b3
 generalize hK : s.lv.length - 1 = K at *
 have HRY := hid (fun (h : ∀ i, i < K → fluxS s i = 0) => restB_yes (s := s) (by rw [hK]; exact h))
 have HRN := hid (fun (i : Nat) (hi : i < K) (h : fluxS s i ≠ 0) => restB_no (s := s) (i := i) (by rw [hK]; exact hi) h)
 have hKb : K ≤ 128 := by omega
 clear hO b3 hB2 g0 g1 g2 g3 g4 hK
 go_wp2
 go_loopw [11] (fun v11 wr => ∃ j : Nat, j ≤ K ∧ v11 = .int .i64 j ∧ Hid (∀ i, i < j → fluxS s i = 0) ∧ Hid (Bw w3 wr)) (fun v11 _ => K - (intOf v11).toNat)
 case atStart => exact ⟨0, by omega, rfl, hid (fun i hi => by omega), hid (Bw.refl _)⟩
 case round =>
  obtain ⟨j, hj, rfl, hZ, hW⟩ := hrel
  by_cases hlt : j < K
  ·have t1 : decide ((j : Int) < (K : Int)) = true := decide_eq_true (by omega)
   obtain ⟨ad, rfl, hc⟩ := (hrd.to hW.out).nat j hlt
   rw [rd_rowOf _ hlt] at hc
   have e1 : IntKind.i64.wrap ((j : Int) + 1) = (j : Int) + 1 := i64w (by omega) (by omega)
   obtain ⟨y, hy⟩ : ∃ y, fluxS s j = y := ⟨_, rfl⟩
   rw [hy] at hc
   have HY := hid hy
   clear hy
   by_cases hz : y = 0
   ·have u1 : (y != 0) = false := by simp [hz]
    have hZ2 := hid (show ∀ i, i < j + 1 → fluxS s i = 0 from fun i hi => by
     rcases Nat.lt_or_ge i j with h | h
     ·exact hZ.out i h
     ·obtain rfl : i = j := by clear e1; omega
      rw [HY.out, hz])
    clear hz
    go_wp2
    go_roundw
    case rel => exact ⟨j + 1, by clear e1; omega, by go_num, hZ2, hW⟩
    case measure => simp [intOf]; clear e1; omega
   ·have u1 : (y != 0) = true := by simp [hz]
    have HF := hid (HRN.out j hlt (by rw [HY.out]; exact hz))
    clear hz
    go_wp2
    go_ret
    exact ⟨ret_bool HF.out.symm, hB3.trans hW.out⟩
  ·obtain rfl : K = j := by omega
   have t1 : decide ((K : Int) < (K : Int)) = false := decide_eq_false (by omega)
   have HF := hid (HRY.out hZ.out)
   go_wp2
   go_ret
   exact ⟨ret_bool HF.out.symm, hB3.trans hW.out⟩
set_option maxHeartbeats 8000000 in
set_option maxRecDepth 100000 in
theorem impl_DryLeaves (x : Value) (s : Sta) (w : World) (hx : StR w x s) (hok : staOk s.ro s.lv s.ms s.ts s.bd = true) :
  Calls Try.prog 33 #[x] w fun e w' => ∃ v, e = .returned v ∧ OI w' w.heap.size v (dryN s.ms s.lv.length) (dryL s.ms s.lv.length) ∧ Bw w w' := by
 have hs := StG.of hok
 have hn := hs.f.n
 have hone := hs.one
 have HX := hid hx
 obtain ⟨A0, c0, A1, c1, A2, c2, A3, c3, rfl, r0, r1, r2, r3⟩ := hx
 have b0 := Bw.box1 w (.cells #[.int .i64 s.ro, .slice A0 s.lv.length c0, .slice A1 s.ms.length c1, .slice A2 s.ts.length c2, .slice A3 s.bd.length c3] 50)
 have g0 := box_cell (Bw.refl (w.alloc (.cells #[.int .i64 s.ro, .slice A0 s.lv.length c0, .slice A1 s.ms.length c1, .slice A2 s.ts.length c2, .slice A3 s.bd.length c3] 50))) 0
 have g1 := box_cell (Bw.refl (w.alloc (.cells #[.int .i64 s.ro, .slice A0 s.lv.length c0, .slice A1 s.ms.length c1, .slice A2 s.ts.length c2, .slice A3 s.bd.length c3] 50))) 1
 have g2 := box_cell (Bw.refl (w.alloc (.cells #[.int .i64 s.ro, .slice A0 s.lv.length c0, .slice A1 s.ms.length c1, .slice A2 s.ts.length c2, .slice A3 s.bd.length c3] 50))) 2
 have g3 := box_cell (Bw.refl (w.alloc (.cells #[.int .i64 s.ro, .slice A0 s.lv.length c0, .slice A1 s.ms.length c1, .slice A2 s.ts.length c2, .slice A3 s.bd.length c3] 50))) 3
 have g4 := box_cell (Bw.refl (w.alloc (.cells #[.int .i64 s.ro, .slice A0 s.lv.length c0, .slice A1 s.ms.length c1, .slice A2 s.ts.length c2, .slice A3 s.bd.length c3] 50))) 4
 simp only [List.getElem?_toArray, List.getElem?_cons_zero, List.getElem?_cons_succ] at g0 g1 g2 g3 g4
 have hk0 := heap_alloc_new w (.cells #[.int .i64 s.ro, .slice A0 s.lv.length c0, .slice A1 s.ms.length c1, .slice A2 s.ts.length c2, .slice A3 s.bd.length c3] 50 (0, 0))
 have HOK := hid hok
 clear hok
 go_enter Try.func33, Try.ntmps33
 go_upto_region 1 with fail
 generalize (w.alloc (.cells #[.int .i64 s.ro, .slice A0 s.lv.length c0, .slice A1 s.ms.length c1, .slice A2 s.ts.length c2, .slice A3 s.bd.length c3] 50)) = W1 at *
 go_wp2_with fail
 refine (impl_StateOk s.ro A0 _ c0 s.lv A1 _ c1 s.ms A2 _ c2 s.ts A3 _ c3 s.bd _ (r0.to b0) (r1.to b0) (r2.to b0) (r3.to b0)).mono ?_
 rintro e w2 ⟨rfl, b2⟩
 rw [HOK.out]
 have bL := Bw.box1 w2 (.cells #[] 3)
 replace g0 := pw_cell_below (b2.trans bL).out g0
 replace g1 := pw_cell_below (b2.trans bL).out g1
 replace g2 := pw_cell_below (b2.trans bL).out g2
 replace g3 := pw_cell_below (b2.trans bL).out g3
 replace g4 := pw_cell_below (b2.trans bL).out g4
 have HB0 := hid ((b0.trans b2).trans bL)
 have HK0 := hid (((b2.trans bL).out.block _ (blk_lt hk0)).trans hk0)
 have hO0 := hid (show OI (w2.alloc (.cells #[] 3)) w.heap.size (.slice (some ⟨w2.heap.size, 0, none⟩) 0 0) 0 [] from OI.lit0 w2 w.heap.size (b0.trans b2).size)
 have hms := hs.f.ms
 clear b0 b2 bL hk0
 obtain ⟨n, hn2⟩ : ∃ n, s.lv.length = n := ⟨_, rfl⟩
 rw [hn2] at hms hn hone
 rw [hms] at r1 g2
 have HN := hid hn2
 clear hms hn2
 go_upto_region 4 with fail
 generalize (w2.alloc (.cells #[] 3)) = W3 at *
 go_wp2
 clear g0 g1 g2 g3 g4
 go_loopw [3, 13] (fun v3 v13 wr => ∃ j : Nat, j ≤ n ∧ v13 = .int .i64 j ∧ Hid (OI wr w.heap.size v3 (dryN s.ms j) (dryL s.ms j)) ∧ Hid (Bw w wr)) (fun _ v13 _ => n - (intOf v13).toNat)
 case atStart => exact ⟨0, by omega, rfl, hO0, HB0⟩
 case round =>
  obtain ⟨j, hj, rfl, hO, hB⟩ := hrel
  by_cases hlt : j < n
  ·have t1 : decide ((j : Int) < (n : Int)) = true := decide_eq_true (by omega)
   obtain ⟨ad, rfl, hc⟩ := (r1.to hB.out).nat j hlt
   have e1 : IntKind.i64.wrap ((j : Int) + 1) = (j : Int) + 1 := i64w (by omega) (by omega)
   have hkk := hid (show j + 1 ≤ n ∧ n - (j + 1) < n - j by clear e1; omega)
   obtain ⟨y, hy⟩ : ∃ y, rd s.ms (j : Int) = y := ⟨_, rfl⟩
   rw [hy] at hc
   have HY := hid hy
   clear hy
   by_cases hz : y = 0
   ·have u1 : (y == 0) = true := by simp [hz]
    have HD := hid (show dryL s.ms (j + 1) = dryL s.ms j ++ [(j : Int)] ∧ dryN s.ms (j + 1) = dryN s.ms j + 1 by rw [dryL, dryN, HY.out, hz]; exact ⟨rfl, rfl⟩)
    have HLEN := hid (dryL_len s.ms j)
    have hle := dryN_le s.ms j
    clear hz
    obtain ⟨Ao, co, rfl, _⟩ := hO.out.reads
    have hO5 := hid (show OI wr w.heap.size (.slice Ao (dryN s.ms j) co) (dryL s.ms j).length (dryL s.ms j) by rw [HLEN.out]; exact hO.out)
    go_wp2_with (at_builtin; refine print_append_num (w0 := w) w.heap.size rfl _ _ 31 3 .i64 8 rfl Try.underlying31 info_int (by omega) (.slice Ao (dryN s.ms j) co) (dryL s.ms j) (j : Int) rfl rfl hO5.out.out hB.out.out hB.out.size (by clear e1; have := HLEN.out; omega) ?_; intro v1 w5 hown1 hB1 hg1 _)
    have hO6 := hid (show OI w5 w.heap.size v1 (dryN s.ms (j + 1)) (dryL s.ms (j + 1)) from ⟨by have h := hown1; rw [← HD.out.1, dryL_len] at h; exact h⟩)
    go_roundw
    case rel => exact ⟨j + 1, hkk.out.1, by go_num, hO6, hid ⟨hB1⟩⟩
    case measure => simp [intOf]; clear e1; omega
   ·have u1 : (y == 0) = false := by simp [hz]
    have hO6 := hid (show OI wr w.heap.size u3 (dryN s.ms (j + 1)) (dryL s.ms (j + 1)) by rw [dryL, dryN, HY.out, if_neg hz, if_neg hz]; exact hO.out)
    clear hz
    go_wp2
    go_roundw
    case rel => exact ⟨j + 1, hkk.out.1, by go_num, hO6, hB⟩
    case measure => simp [intOf]; clear e1; omega
  ·obtain rfl : n = j := by omega
   have t1 : decide ((n : Int) < (n : Int)) = false := decide_eq_false (by omega)
   have hO7 := hid (show OI wr w.heap.size u3 (dryN s.ms s.lv.length) (dryL s.ms s.lv.length) by rw [HN.out]; exact hO.out)
   go_wp2
   go_ret
   exact ⟨_, rfl, hO7.out, hB.out⟩
set_option maxHeartbeats 8000000 in
set_option maxRecDepth 100000 in
theorem impl_WaterLine (x : Value) (s : Sta) (w : World) (hx : StR w x s) (hok : staOk s.ro s.lv s.ms s.ts s.bd = true) :
  Calls Try.prog 32 #[x] w fun e w' => e = .returned (.tuple #[.int .i64 (wline s s.lv.length).1, .int .i64 (wline s s.lv.length).2]) ∧ Bw w w' := by
 have hs := StG.of hok
 have hn := hs.f.n
 have hone := hs.one
 have HX := hid hx
 obtain ⟨A0, c0, A1, c1, A2, c2, A3, c3, rfl, r0, r1, r2, r3⟩ := hx
 have b0 := Bw.box1 w (.cells #[.int .i64 s.ro, .slice A0 s.lv.length c0, .slice A1 s.ms.length c1, .slice A2 s.ts.length c2, .slice A3 s.bd.length c3] 50)
 have g0 := box_cell (Bw.refl (w.alloc (.cells #[.int .i64 s.ro, .slice A0 s.lv.length c0, .slice A1 s.ms.length c1, .slice A2 s.ts.length c2, .slice A3 s.bd.length c3] 50))) 0
 have g1 := box_cell (Bw.refl (w.alloc (.cells #[.int .i64 s.ro, .slice A0 s.lv.length c0, .slice A1 s.ms.length c1, .slice A2 s.ts.length c2, .slice A3 s.bd.length c3] 50))) 1
 have g2 := box_cell (Bw.refl (w.alloc (.cells #[.int .i64 s.ro, .slice A0 s.lv.length c0, .slice A1 s.ms.length c1, .slice A2 s.ts.length c2, .slice A3 s.bd.length c3] 50))) 2
 have g3 := box_cell (Bw.refl (w.alloc (.cells #[.int .i64 s.ro, .slice A0 s.lv.length c0, .slice A1 s.ms.length c1, .slice A2 s.ts.length c2, .slice A3 s.bd.length c3] 50))) 3
 have g4 := box_cell (Bw.refl (w.alloc (.cells #[.int .i64 s.ro, .slice A0 s.lv.length c0, .slice A1 s.ms.length c1, .slice A2 s.ts.length c2, .slice A3 s.bd.length c3] 50))) 4
 simp only [List.getElem?_toArray, List.getElem?_cons_zero, List.getElem?_cons_succ] at g0 g1 g2 g3 g4
 have hk0 := heap_alloc_new w (.cells #[.int .i64 s.ro, .slice A0 s.lv.length c0, .slice A1 s.ms.length c1, .slice A2 s.ts.length c2, .slice A3 s.bd.length c3] 50 (0, 0))
 have HOK := hid hok
 clear hok
 go_enter Try.func32, Try.ntmps32
 go_upto_region 2 with fail
 generalize (w.alloc (.cells #[.int .i64 s.ro, .slice A0 s.lv.length c0, .slice A1 s.ms.length c1, .slice A2 s.ts.length c2, .slice A3 s.bd.length c3] 50)) = W1 at *
 go_wp2_with fail
 refine (impl_StateOk s.ro A0 _ c0 s.lv A1 _ c1 s.ms A2 _ c2 s.ts A3 _ c3 s.bd _ (r0.to b0) (r1.to b0) (r2.to b0) (r3.to b0)).mono ?_
 rintro e w2 ⟨rfl, b2⟩
 rw [HOK.out]
 replace g0 := pw_cell_below b2.out g0
 replace g1 := pw_cell_below b2.out g1
 replace g2 := pw_cell_below b2.out g2
 replace g3 := pw_cell_below b2.out g3
 replace g4 := pw_cell_below b2.out g4
 have HB0 := hid (b0.trans b2)
 have HK0 := hid ((b2.out.block _ (blk_lt hk0)).trans hk0)
 have hms := hs.f.ms
 obtain ⟨n, hn2⟩ : ∃ n, s.lv.length = n := ⟨_, rfl⟩
 rw [hn2] at hms hn hone r0 g1
 rw [hms] at r1 g2
 have HN := hid hn2
 have HKX := hid (show w2.heap[w.heap.size]? = some (.cells #[.int .i64 s.ro, .slice A0 n c0, .slice A1 n c1, .slice A2 s.ts.length c2, .slice A3 s.bd.length c3] 50 (0, 0)) by have h := HK0.out; rw [hn2, hms] at h; exact h)
 have HCE := hid (fun (j : Nat) (hj : j < n) => (mesh_next (show meshOk s.ro s.lv = true by have h := HOK.out; simp only [staOk, isBal, Bool.and_eq_true] at h; exact h.1.1) j (by rw [hn2]; exact hj)).1)
 have HWF := hid (fun (j : Nat) (hj : j ≤ n) => wline_facts HOK.out j (by rw [hn2]; exact hj))
 clear hms hn2 HK0 b0 hk0
 go_upto_region 4 with fail
 clear b2
 go_wp2
 clear g0 g1 g2 g3 g4
 go_loopw [4, 5, 16] (fun v4 v5 v16 wr => ∃ j : Nat, j ≤ n ∧ v16 = .int .i64 j ∧ v4 = .int .i64 (wline s j).1 ∧ v5 = .int .i64 (wline s j).2 ∧ Hid (Bw w wr) ∧ Hid (wr.heap[w.heap.size]? = some (.cells #[.int .i64 s.ro, .slice A0 n c0, .slice A1 n c1, .slice A2 s.ts.length c2, .slice A3 s.bd.length c3] 50 (0, 0)))) (fun _ _ v16 _ => n - (intOf v16).toNat)
 case atStart => exact ⟨0, by omega, rfl, rfl, rfl, HB0, HKX⟩
 case round =>
  obtain ⟨j, hj, rfl, rfl, rfl, hB, hK⟩ := hrel
  by_cases hlt : j < n
  ·have t1 : decide ((j : Int) < (n : Int)) = true := decide_eq_true (by omega)
   have k0 := (blk_cell hK.out 0).trans (show _ = some (Value.int .i64 s.ro) from rfl)
   have k1 := (blk_cell hK.out 1).trans (show _ = some (Value.slice A0 n c0) from rfl)
   have k2 := (blk_cell hK.out 2).trans (show _ = some (Value.slice A1 n c1) from rfl)
   have k3 := (blk_cell hK.out 3).trans (show _ = some (Value.slice A2 s.ts.length c2) from rfl)
   have k4 := (blk_cell hK.out 4).trans (show _ = some (Value.slice A3 s.bd.length c3) from rfl)
   obtain ⟨ad, rfl, hc⟩ := (r1.to hB.out).nat j hlt
   have e1 : IntKind.i64.wrap ((j : Int) + 1) = (j : Int) + 1 := i64w (by omega) (by omega)
   have i0 : (0 : Int) ≤ (j : Int) := by clear e1; omega
   have i1 : (j : Int) < (n : Int) := by clear e1; omega
   have hkk := hid (show j + 1 ≤ n ∧ n - (j + 1) < n - j by clear e1; omega)
   obtain ⟨y, hy⟩ : ∃ y, rd s.ms (j : Int) = y := ⟨_, rfl⟩
   rw [hy] at hc
   obtain ⟨lo, hlo⟩ : ∃ lo, (wline s j).1 = lo := ⟨_, rfl⟩
   obtain ⟨hg, hhg⟩ : ∃ hg, (wline s j).2 = hg := ⟨_, rfl⟩
   have HY := hid (And.intro hy (And.intro hlo hhg))
   rw [hlo, hhg]
   clear hy hlo hhg
   by_cases hz : y = 0
   ·have u1 : (y == 0) = true := by simp [hz]
    have HW := hid (show (wline s (j + 1)).1 = lo ∧ (wline s (j + 1)).2 = hg by rw [wline, HY.out.1, if_pos hz]; exact HY.out.2)
    clear hz k0 k1 k2 k3 k4
    go_wp2
    go_roundw
    case rel => exact ⟨j + 1, hkk.out.1, by go_num, congrArg (Value.int .i64) HW.out.1.symm, congrArg (Value.int .i64) HW.out.2.symm, hB, hK⟩
    case measure => simp [intOf]; clear e1; omega
   ·have u1 : (y == 0) = false := by simp [hz]
    obtain ⟨al, rfl, x0, x1, x2⟩ := (r0.to hB.out).at j hlt
    have hce := HCE.out j hlt
    obtain ⟨q0, q1, q2, hq⟩ : ∃ q0 q1 q2, gc s.lv j = ⟨q0, q1, q2⟩ := ⟨_, _, _, rfl⟩
    have HWL := hid (show wline s (j + 1) = (if hg = 0 then ceAt ⟨q0, q1, q2⟩ else lo, ceEnd ⟨q0, q1, q2⟩) by rw [wline, HY.out.1, if_neg hz, HY.out.2.1, HY.out.2.2, hq])
    rw [hq] at x0 x1 x2 hce
    simp only at x0 x1 x2
    have HC := hid hce
    clear hz hq hce
    by_cases hh : hg = 0
    ·have u2 : (hg == 0) = true := by simp [hh]
     have HW := hid (show (wline s (j + 1)).1 = ceAt ⟨q0, q1, q2⟩ ∧ (wline s (j + 1)).2 = ceEnd ⟨q0, q1, q2⟩ by rw [HWL.out, if_pos hh]; exact ⟨rfl, rfl⟩)
     clear hh
     go_wp2_with fail
     refine (impl_StartOf q0 q1 q2 _).mono ?_
     rintro e w4 ⟨rfl, b4⟩
     replace k0 := pw_cell_below b4.out k0
     replace k1 := pw_cell_below b4.out k1
     replace k2 := pw_cell_below b4.out k2
     replace k3 := pw_cell_below b4.out k3
     replace k4 := pw_cell_below b4.out k4
     replace x0 := pw_cell_below b4.out x0
     replace x1 := pw_cell_below b4.out x1
     replace x2 := pw_cell_below b4.out x2
     go_wp2_with fail
     refine (impl_endOf q0 q1 q2 _).mono ?_
     rintro e w5 ⟨rfl, b5⟩
     have hB5 := hid ((hB.out.trans b4).trans b5)
     have hK5 := hid (((b4.trans b5).out.block _ (blk_lt hK.out)).trans hK.out)
     clear hB hK b4 b5 k0 k1 k2 k3 k4 x0 x1 x2 hc
     go_wp2
     go_roundw
     case rel => exact ⟨j + 1, hkk.out.1, by go_num, congrArg (Value.int .i64) HW.out.1.symm, congrArg (Value.int .i64) HW.out.2.symm, hB5, hK5⟩
     case measure => simp [intOf]; clear e1; omega
    ·have u2 : (hg == 0) = false := by simp [hh]
     have HW := hid (show (wline s (j + 1)).1 = lo ∧ (wline s (j + 1)).2 = ceEnd ⟨q0, q1, q2⟩ by rw [HWL.out, if_neg hh]; exact ⟨rfl, rfl⟩)
     clear hh
     go_wp2_with fail
     refine (impl_endOf q0 q1 q2 _).mono ?_
     rintro e w5 ⟨rfl, b5⟩
     have hB5 := hid (hB.out.trans b5)
     have hK5 := hid ((b5.out.block _ (blk_lt hK.out)).trans hK.out)
     clear hB hK b5 k0 k1 k2 k3 k4 x0 x1 x2 hc
     go_wp2
     go_roundw
     case rel => exact ⟨j + 1, hkk.out.1, by go_num, congrArg (Value.int .i64) HW.out.1.symm, congrArg (Value.int .i64) HW.out.2.symm, hB5, hK5⟩
     case measure => simp [intOf]; clear e1; omega
  ·obtain rfl : n = j := by omega
   have t1 : decide ((n : Int) < (n : Int)) = false := decide_eq_false (by omega)
   have HE := hid (show (wline s n).1 = (wline s s.lv.length).1 ∧ (wline s n).2 = (wline s s.lv.length).2 by rw [HN.out]; exact ⟨rfl, rfl⟩)
   go_wp2
   exact bodyPost_ret (v := .tuple #[.int .i64 (wline s n).1, .int .i64 (wline s n).2]) (by simp [results, Try.results32, go_sem]) rfl ⟨by rw [HE.out.1, HE.out.2], hB.out⟩
end Go.Proofs.Ytenijmalcchciaa.U
set_option linter.unusedVariables false
set_option linter.unusedSimpArgs false
namespace Go.Proofs.Ytenijmalcchciaa.U
open Go.RowKit Go.Lib Go.Proofs.YtenijmalcchciaaW.PrintWords
open Go.Proofs.YtenijmalcchciaaW.PrintLast Go.Proofs.YtenijmalcchciaaW.PrintMore
set_option maxHeartbeats 4000000 in
theorem spec_SameState_m (x y : Value) (s z : Sta) (w : World) (hx : StR w x s) (hy : StR w y z) (hz : z.ro = s.ro ∧ z.lv = s.lv ∧ z.bd = s.bd) :
  Calls Try.prog 29 #[x, y] w fun e w' => e = .returned (.bool (decide (s.ms = z.ms) && decide (s.ts = z.ts))) ∧ Bw w w' := by
 obtain ⟨A0, c0, A1, c1, A2, c2, A3, c3, rfl, r0, r1, r2, r3⟩ := hx
 obtain ⟨B0, d0, B1, d1, B2, d2, B3, d3, rfl, q0, q1, q2, q3⟩ := hy
 rw [hz.2.1] at q0
 rw [hz.2.2] at q3
 rw [hz.1, hz.2.1, hz.2.2]
 clear hz
 have g0 := box_cell ((Bw.refl (w.alloc (.cells #[.int .i64 s.ro, .slice A0 s.lv.length c0, .slice A1 s.ms.length c1, .slice A2 s.ts.length c2, .slice A3 s.bd.length c3] 50))).alloc (.cells #[.int .i64 s.ro, .slice B0 s.lv.length d0, .slice B1 z.ms.length d1, .slice B2 z.ts.length d2, .slice B3 s.bd.length d3] 50)) 0
 have g1 := box_cell ((Bw.refl (w.alloc (.cells #[.int .i64 s.ro, .slice A0 s.lv.length c0, .slice A1 s.ms.length c1, .slice A2 s.ts.length c2, .slice A3 s.bd.length c3] 50))).alloc (.cells #[.int .i64 s.ro, .slice B0 s.lv.length d0, .slice B1 z.ms.length d1, .slice B2 z.ts.length d2, .slice B3 s.bd.length d3] 50)) 1
 have g2 := box_cell ((Bw.refl (w.alloc (.cells #[.int .i64 s.ro, .slice A0 s.lv.length c0, .slice A1 s.ms.length c1, .slice A2 s.ts.length c2, .slice A3 s.bd.length c3] 50))).alloc (.cells #[.int .i64 s.ro, .slice B0 s.lv.length d0, .slice B1 z.ms.length d1, .slice B2 z.ts.length d2, .slice B3 s.bd.length d3] 50)) 2
 have g3 := box_cell ((Bw.refl (w.alloc (.cells #[.int .i64 s.ro, .slice A0 s.lv.length c0, .slice A1 s.ms.length c1, .slice A2 s.ts.length c2, .slice A3 s.bd.length c3] 50))).alloc (.cells #[.int .i64 s.ro, .slice B0 s.lv.length d0, .slice B1 z.ms.length d1, .slice B2 z.ts.length d2, .slice B3 s.bd.length d3] 50)) 3
 have g4 := box_cell ((Bw.refl (w.alloc (.cells #[.int .i64 s.ro, .slice A0 s.lv.length c0, .slice A1 s.ms.length c1, .slice A2 s.ts.length c2, .slice A3 s.bd.length c3] 50))).alloc (.cells #[.int .i64 s.ro, .slice B0 s.lv.length d0, .slice B1 z.ms.length d1, .slice B2 z.ts.length d2, .slice B3 s.bd.length d3] 50)) 4
 have k0 := box_cell (Bw.refl ((w.alloc (.cells #[.int .i64 s.ro, .slice A0 s.lv.length c0, .slice A1 s.ms.length c1, .slice A2 s.ts.length c2, .slice A3 s.bd.length c3] 50)).alloc (.cells #[.int .i64 s.ro, .slice B0 s.lv.length d0, .slice B1 z.ms.length d1, .slice B2 z.ts.length d2, .slice B3 s.bd.length d3] 50))) 0
 have k1 := box_cell (Bw.refl ((w.alloc (.cells #[.int .i64 s.ro, .slice A0 s.lv.length c0, .slice A1 s.ms.length c1, .slice A2 s.ts.length c2, .slice A3 s.bd.length c3] 50)).alloc (.cells #[.int .i64 s.ro, .slice B0 s.lv.length d0, .slice B1 z.ms.length d1, .slice B2 z.ts.length d2, .slice B3 s.bd.length d3] 50))) 1
 have k2 := box_cell (Bw.refl ((w.alloc (.cells #[.int .i64 s.ro, .slice A0 s.lv.length c0, .slice A1 s.ms.length c1, .slice A2 s.ts.length c2, .slice A3 s.bd.length c3] 50)).alloc (.cells #[.int .i64 s.ro, .slice B0 s.lv.length d0, .slice B1 z.ms.length d1, .slice B2 z.ts.length d2, .slice B3 s.bd.length d3] 50))) 2
 have k3 := box_cell (Bw.refl ((w.alloc (.cells #[.int .i64 s.ro, .slice A0 s.lv.length c0, .slice A1 s.ms.length c1, .slice A2 s.ts.length c2, .slice A3 s.bd.length c3] 50)).alloc (.cells #[.int .i64 s.ro, .slice B0 s.lv.length d0, .slice B1 z.ms.length d1, .slice B2 z.ts.length d2, .slice B3 s.bd.length d3] 50))) 3
 have k4 := box_cell (Bw.refl ((w.alloc (.cells #[.int .i64 s.ro, .slice A0 s.lv.length c0, .slice A1 s.ms.length c1, .slice A2 s.ts.length c2, .slice A3 s.bd.length c3] 50)).alloc (.cells #[.int .i64 s.ro, .slice B0 s.lv.length d0, .slice B1 z.ms.length d1, .slice B2 z.ts.length d2, .slice B3 s.bd.length d3] 50))) 4
 simp only [List.getElem?_toArray, List.getElem?_cons_zero, List.getElem?_cons_succ] at g0 g1 g2 g3 g4 k0 k1 k2 k3 k4
 rw [show (w.alloc (.cells #[.int .i64 s.ro, .slice A0 s.lv.length c0, .slice A1 s.ms.length c1, .slice A2 s.ts.length c2, .slice A3 s.bd.length c3] 50)).heap.size = w.heap.size + 1 by simp] at k0 k1 k2 k3 k4
 have b0 := (Bw.box1 w (.cells #[.int .i64 s.ro, .slice A0 s.lv.length c0, .slice A1 s.ms.length c1, .slice A2 s.ts.length c2, .slice A3 s.bd.length c3] 50)).alloc (.cells #[.int .i64 s.ro, .slice B0 s.lv.length d0, .slice B1 z.ms.length d1, .slice B2 z.ts.length d2, .slice B3 s.bd.length d3] 50)
 go_enter Try.func29, Try.ntmps29
 go_wp2_with fail
 refine (spec_SameMesh_yes s.ro A0 s.lv.length c0 B0 d0 s.lv _ (r0.to b0) (q0.to b0)).mono ?_
 rintro e w1 ⟨rfl, b1⟩
 replace g0 := pw_cell_below b1.out g0
 replace g1 := pw_cell_below b1.out g1
 replace g2 := pw_cell_below b1.out g2
 replace g3 := pw_cell_below b1.out g3
 replace g4 := pw_cell_below b1.out g4
 replace k0 := pw_cell_below b1.out k0
 replace k1 := pw_cell_below b1.out k1
 replace k2 := pw_cell_below b1.out k2
 replace k3 := pw_cell_below b1.out k3
 replace k4 := pw_cell_below b1.out k4
 replace b0 := b0.trans b1
 clear b1
 go_wp2_with fail
 refine (spec_l24Same A1 s.ms.length c1 s.ms B1 z.ms.length d1 z.ms _ (r1.to b0) (q1.to b0)).mono ?_
 rintro e w1 ⟨rfl, dd1⟩
 have b1 := Bw.drawn dd1
 by_cases hm : s.ms = z.ms
 case neg =>
  have HF := hid (decide_eq_false hm)
  rw [HF.out]
  have hB := b0.trans b1
  clear hm
  go_wp2
  go_ret
  exact ⟨ret_bool (by rw [HF.out]; rfl), hB⟩
 have HT1 := hid (decide_eq_true hm)
 rw [HT1.out]
 clear hm
 replace g0 := pw_cell_below b1.out g0
 replace g1 := pw_cell_below b1.out g1
 replace g2 := pw_cell_below b1.out g2
 replace g3 := pw_cell_below b1.out g3
 replace g4 := pw_cell_below b1.out g4
 replace k0 := pw_cell_below b1.out k0
 replace k1 := pw_cell_below b1.out k1
 replace k2 := pw_cell_below b1.out k2
 replace k3 := pw_cell_below b1.out k3
 replace k4 := pw_cell_below b1.out k4
 replace b0 := b0.trans b1
 clear b1 dd1
 go_wp2_with fail
 refine (spec_l24Same A2 s.ts.length c2 s.ts B2 z.ts.length d2 z.ts _ (r2.to b0) (q2.to b0)).mono ?_
 rintro e w1 ⟨rfl, dd1⟩
 have b1 := Bw.drawn dd1
 by_cases hm : s.ts = z.ts
 case neg =>
  have HF := hid (decide_eq_false hm)
  rw [HF.out]
  have hB := b0.trans b1
  clear hm
  go_wp2
  go_ret
  exact ⟨ret_bool (by rw [HT1.out, HF.out]; rfl), hB⟩
 have HT2 := hid (decide_eq_true hm)
 rw [HT2.out]
 clear hm
 replace g0 := pw_cell_below b1.out g0
 replace g1 := pw_cell_below b1.out g1
 replace g2 := pw_cell_below b1.out g2
 replace g3 := pw_cell_below b1.out g3
 replace g4 := pw_cell_below b1.out g4
 replace k0 := pw_cell_below b1.out k0
 replace k1 := pw_cell_below b1.out k1
 replace k2 := pw_cell_below b1.out k2
 replace k3 := pw_cell_below b1.out k3
 replace k4 := pw_cell_below b1.out k4
 replace b0 := b0.trans b1
 clear b1 dd1
 go_wp2_with fail
 refine (spec_l24Same A3 s.bd.length c3 s.bd B3 s.bd.length d3 s.bd _ (r3.to b0) (q3.to b0)).mono ?_
 rintro e w1 ⟨rfl, dd1⟩
 have b1 := Bw.drawn dd1
 rw [decide_eq_true (rfl : s.bd = s.bd)]
 replace g0 := pw_cell_below b1.out g0
 replace g1 := pw_cell_below b1.out g1
 replace g2 := pw_cell_below b1.out g2
 replace g3 := pw_cell_below b1.out g3
 replace g4 := pw_cell_below b1.out g4
 replace k0 := pw_cell_below b1.out k0
 replace k1 := pw_cell_below b1.out k1
 replace k2 := pw_cell_below b1.out k2
 replace k3 := pw_cell_below b1.out k3
 replace k4 := pw_cell_below b1.out k4
 replace b0 := b0.trans b1
 clear b1 dd1
 go_wp2
 go_ret
 exact ⟨ret_bool (by rw [HT1.out, HT2.out]; rfl), b0⟩
end Go.Proofs.Ytenijmalcchciaa.U
set_option linter.unusedVariables false
set_option linter.unusedSimpArgs false
namespace Go.Proofs.Ytenijmalcchciaa.U
open Go.RowKit Go.Lib Go.Proofs.YtenijmalcchciaaW.PrintWords
open Go.Proofs.YtenijmalcchciaaW.PrintLast Go.Proofs.YtenijmalcchciaaW.PrintMore
def sameTo (s : Sta) : Nat → Bool
 | 0 => true
 | k + 1 => sameTo s k && (decide ((stepS s (k : Int)).ms = s.ms) && decide ((stepS s (k : Int)).ts = s.ts))
theorem sameTo_rest {s : Sta} (hs : StF s) (h : restB s = true) : ∀ k, sameTo s k = true
 | 0 => rfl
 | k + 1 => by
  have hr := rest_step hs h (k : Int)
  rw [sameTo, sameTo_rest hs h k, decide_eq_true hr.1, decide_eq_true hr.2]
  rfl
theorem StR_mR {w : World} {x : Value} {s z : Sta} {m : Nat} (h : StR w x z) (e : z.ro = s.ro ∧ z.lv.length = m ∧ z.ms.length = m ∧ z.ts.length = m ∧ z.bd.length = s.bd.length) :
  ∃ (A0 : Option Addr) (c0 : Nat) (A1 : Option Addr) (c1 : Nat) (A2 : Option Addr) (c2 : Nat) (A3 : Option Addr) (c3 : Nat), x = .agg #[.int .i64 s.ro, .slice A0 m c0, .slice A1 m c1, .slice A2 m c2, .slice A3 s.bd.length c3] ∧ RI w A1 m z.ms := by
 obtain ⟨A0, c0, A1, c1, A2, c2, A3, c3, rfl, r0, r1, r2, r3⟩ := h
 obtain ⟨e0, e1, e2, e3, e4⟩ := e
 rw [e0, e1, e2, e3, e4]
 rw [e2] at r1
 exact ⟨_, _, _, _, _, _, _, _, rfl, r1⟩
set_option maxHeartbeats 8000000 in
set_option maxRecDepth 100000 in
theorem law_Rest (A : Option Addr) (n c : Nat) (l : List Int) (w : World) (r : ReadsInt w .u8 A n l) (wf : ∀ x ∈ l, 0 ≤ x ∧ x ≤ 255) :
  Calls Try.prog 6 #[.slice A n c] w fun e w' => e = .returned (.bool true) ∧ Bw w w' := by
 have WF := hid wf
 clear wf
 by_cases hb : n ≤ 1048576
 ·have t1 : decide (1048576 < (n : Int)) = false := decide_eq_false (by omega)
  have T1 := hid t1
  clear t1
  go_enter Try.func6, Try.ntmps6
  go_wp2_with fail
  refine (toBool (lawbig _ _ _ _) T1.out).mono ?_
  rintro e w1 ⟨rfl, rfl⟩
  go_wp2_with fail
  refine (DrawState A n c l _ r WF.out hb).mono ?_
  rintro e w1 ⟨x, s, rfl, hs, hO, b1⟩
  obtain ⟨m, hm⟩ : ∃ m, s.lv.length = m := ⟨_, rfl⟩
  have hms : s.ms.length = m := by rw [hs.cs.lm, hm]
  have hts : s.ts.length = m := by rw [hs.cs.lt, hm]
  have hm1 : 1 ≤ m ∧ m ≤ 48 := by
   have h1 := hs.ok
   simp only [staOk, isBal, Bool.and_eq_true] at h1
   have := meshOk_len h1.1.1
   have := hs.n
   omega
  have HOK := hid hs.ok
  have HLEN := hid (fun k => by have h := macS_len hs.ok k; rw [hm] at h; exact (show (macS s k).ro = s.ro ∧ (macS s k).lv.length = m ∧ (macS s k).ms.length = m ∧ (macS s k).ts.length = m ∧ (macS s k).bd.length = s.bd.length from ⟨(macS_same s k).1, h⟩))
  have HM := hid (show s.lv.length = m ∧ s.ms.length = m ∧ s.ts.length = m from ⟨hm, hms, hts⟩)
  obtain ⟨X0, y0, X1, y1, X2, y2, X3, y3, rfl, q1⟩ := StR_mR hO.r (HLEN.out 0)
  clear hs hm hms hts
  have b2 := Bw.box1 w1 (.cells #[.int .i64 s.ro, .slice X0 m y0, .slice X1 m y1, .slice X2 m y2, .slice X3 s.bd.length y3] 50)
  have g0 := box_cell (Bw.refl (w1.alloc (.cells #[.int .i64 s.ro, .slice X0 m y0, .slice X1 m y1, .slice X2 m y2, .slice X3 s.bd.length y3] 50))) 0
  have g1 := box_cell (Bw.refl (w1.alloc (.cells #[.int .i64 s.ro, .slice X0 m y0, .slice X1 m y1, .slice X2 m y2, .slice X3 s.bd.length y3] 50))) 1
  have g2 := box_cell (Bw.refl (w1.alloc (.cells #[.int .i64 s.ro, .slice X0 m y0, .slice X1 m y1, .slice X2 m y2, .slice X3 s.bd.length y3] 50))) 2
  have g3 := box_cell (Bw.refl (w1.alloc (.cells #[.int .i64 s.ro, .slice X0 m y0, .slice X1 m y1, .slice X2 m y2, .slice X3 s.bd.length y3] 50))) 3
  have g4 := box_cell (Bw.refl (w1.alloc (.cells #[.int .i64 s.ro, .slice X0 m y0, .slice X1 m y1, .slice X2 m y2, .slice X3 s.bd.length y3] 50))) 4
  simp only [List.getElem?_toArray, List.getElem?_cons_zero, List.getElem?_cons_succ] at g0 g1 g2 g3 g4
  have hB := b1.trans b2
  have hs1 : w.heap.size ≤ w1.heap.size := b1.size
  have hz1 : (w1.alloc (.cells #[.int .i64 s.ro, .slice X0 m y0, .slice X1 m y1, .slice X2 m y2, .slice X3 s.bd.length y3] 50)).heap.size = w1.heap.size + 1 := by simp
  have HZ1 := hid hz1
  replace hO := hO.to b2
  replace q1 := q1.to b2
  clear b1 b2 hz1
  go_wp2_with fail
  generalize (w1.alloc (.cells #[.int .i64 s.ro, .slice X0 m y0, .slice X1 m y1, .slice X2 m y2, .slice X3 s.bd.length y3] 50)) = w2 at *
  refine (impl_IsAtRest _ s _ hO.r HOK.out).mono ?_
  rintro e w3 ⟨rfl, b3⟩
  obtain ⟨rest, hrest⟩ : ∃ q, restB s = q := ⟨_, rfl⟩
  rw [hrest]
  have HREST := hid hrest
  clear hrest
  replace g0 := pw_cell_below b3.out g0
  replace g1 := pw_cell_below b3.out g1
  replace g2 := pw_cell_below b3.out g2
  replace g3 := pw_cell_below b3.out g3
  replace g4 := pw_cell_below b3.out g4
  have HB3 := hid (hB.trans b3)
  have HO3 := hid (hO.to b3)
  have HQ3 := hid (q1.to b3)
  have K_g0 := hid g0
  have K_g1 := hid g1
  have K_g2 := hid g2
  have K_g3 := hid g3
  have K_g4 := hid g4
  clear hB hO q1 b3 g0 g1 g2 g3 g4
  go_wp2
  go_loopw [5, 6] (fun v5 v6 wr => ∃ k : Nat, k ≤ 16 ∧ v6 = .int .i64 k ∧ v5 = .bool (sameTo s k) ∧ Hid (Bw w3 wr)) (fun _ v6 _ => 16 - (intOf v6).toNat)
  case atStart => exact ⟨0, by omega, rfl, rfl, hid (Bw.refl _)⟩
  case round =>
   obtain ⟨k, hk, rfl, rfl, hW⟩ := hrel
   have g0 := pw_cell_below hW.out.out K_g0.out
   have g1 := pw_cell_below hW.out.out K_g1.out
   have g2 := pw_cell_below hW.out.out K_g2.out
   have g3 := pw_cell_below hW.out.out K_g3.out
   have g4 := pw_cell_below hW.out.out K_g4.out
   have hOr := HO3.out.to hW.out
   by_cases hlt : k < 16
   ·have t1 : decide ((k : Int) < 16) = true := decide_eq_true (by omega)
    have t2 : decide (k < 16) = true := decide_eq_true (by omega)
    have e1 : IntKind.i64.wrap ((k : Int) + 1) = (k : Int) + 1 := i64w (by omega) (by omega)
    have hkk := hid (show k + 1 ≤ 16 ∧ 16 - (k + 1) < 16 - k by clear e1; omega)
    have HTK := hid (show tickS s (k : Int) = stepS s (k : Int) from if_pos (by clear e1; omega))
    obtain ⟨sb, hsb⟩ : ∃ sb, (decide ((stepS s (k : Int)).ms = s.ms) && decide ((stepS s (k : Int)).ts = s.ts)) = sb := ⟨_, rfl⟩
    have HSB := hid hsb
    cases hst : sameTo s k with
    | false =>
     have HN := hid (show sameTo s (k + 1) = false by rw [sameTo, hst]; rfl)
     clear hst hsb hOr
     go_upto_region 9 with fail
     go_quiet (fail)
     have bQ : Bw wr (wr.drewN nq) := Bw.drawn ⟨⟨nq, rfl⟩⟩
     have hW2 := hid (hW.out.trans bQ)
     clear bQ hW g0 g1 g2 g3 g4
     go_wp2
     go_roundw
     case rel => exact ⟨k + 1, hkk.out.1, by go_num, congrArg Value.bool HN.out.symm, hW2⟩
     case measure => simp [intOf]; clear e1; omega
    | true =>
     have HN := hid (show sameTo s (k + 1) = sb by rw [sameTo, hst, hsb]; rfl)
     clear hst hsb
     go_upto_region 9 with fail
     have bD := Bw.drawn (a := wr) ⟨⟨1, rfl⟩⟩
     refine start_ (n := 9) (S := fun w' => w'.cell? ⟨w1.heap.size, 0, none⟩ = some (.int .i64 s.ro) ∧ w'.cell? ⟨w1.heap.size, 1, none⟩ = some (.slice X0 m y0) ∧ w'.cell? ⟨w1.heap.size, 2, none⟩ = some (.slice X1 m y1) ∧ w'.cell? ⟨w1.heap.size, 3, none⟩ = some (.slice X2 m y2) ∧ w'.cell? ⟨w1.heap.size, 4, none⟩ = some (.slice X3 s.bd.length y3)) (ds := [8]) #[false, false, false, false, false, false, false, false, false] (by kernel_rfl) rfl rfl ⟨g0, g1, g2, g3, g4⟩ (fun hHeld => ?_)
     refine pq_ (i := 0) (N := (some 22)) (v := ?_) (a' := ?_) rfl rfl (by kernel_rfl) (fun _ _ _ h => h) (Or.inl ⟨by rfl, ?_⟩) ?_ ?_
     rotate_left; (intro w'; go_simp; with_reducible rfl); rotate_left; (simp only [Act.put, s1_, s2_, s3_, i64_w, i32_w]; rfl)
     refine pq_ (i := 1) (N := (some 23)) (v := ?_) (a' := ?_) rfl rfl (by kernel_rfl) (fun _ _ _ h => h) (Or.inl ⟨by rfl, ?_⟩) ?_ ?_
     rotate_left; (intro w'; go_simp; with_reducible rfl); rotate_left; (simp only [Act.put, s1_, s2_, s3_, i64_w, i32_w]; rfl)
     refine tq_ (i := 2) (N := (some 24)) (v := ?_) (a' := ?_) rfl rfl (by kernel_rfl) (fun _ _ _ h => h) (Or.inl ⟨by rfl, ?_⟩) hHeld ?_ ?_
     rotate_left; (rintro w' ⟨s0, s1, s2, s3, s4⟩; go_simp; with_reducible rfl); rotate_left; (simp only [Act.put, s1_, s2_, s3_, i64_w, i32_w]; rfl)
     refine pq_ (i := 3) (N := (some 25)) (v := ?_) (a' := ?_) rfl rfl (by kernel_rfl) (fun _ _ _ h => h) (Or.inl ⟨by rfl, ?_⟩) ?_ ?_
     rotate_left; (intro w'; go_simp; with_reducible rfl); rotate_left; (simp only [Act.put, s1_, s2_, s3_, i64_w, i32_w]; rfl)
     refine tq_ (i := 5) (N := (some 27)) (v := ?_) (a' := ?_) rfl rfl (by kernel_rfl) (fun _ _ _ h => h) (Or.inl ⟨by rfl, ?_⟩) hHeld ?_ ?_
     rotate_left; (rintro w' ⟨s0, s1, s2, s3, s4⟩; go_simp; with_reducible rfl); rotate_left; (simp only [Act.put, s1_, s2_, s3_, i64_w, i32_w]; rfl)
     refine one_ (i := 4) (N := (some 26)) #[true, true, true, true, true, true, false, false, false] rfl rfl (by kernel_rfl) (by decide) (fun K hK => ?_)
     refine goes_ Try.func31 (by kernel_rfl) rfl #[.agg #[.int .i64 s.ro, .slice X0 m y0, .slice X1 m y1, .slice X2 m y2, .slice X3 s.bd.length y3], .int .i64 (k : Int)] (by rfl) rfl rfl (by (try simp only [List.map_toArray, List.map_cons, List.map_nil]); first | done | rfl) ?_
     refine (spec_StepState _ s (k : Int) _ (hOr.r.to bD) HOK.out (by clear e1; omega)).mono ?_
     rintro e wa ⟨v, rfl, hv, ba⟩
     refine ⟨_, rfl, ?_⟩
     rw [HTK.out] at hv
     have bA := bD.trans ba
     refine hK.out _ _ ⟨pw_cell_below bA.out g0, pw_cell_below bA.out g1, pw_cell_below bA.out g2, pw_cell_below bA.out g3, pw_cell_below bA.out g4⟩ (fun hHeld => ?_)
     clear hK K; refine norm_ (a' := ?_) ?_ ?_; rotate_left; (show Act.put _ (some 26) _ = _; simp only [Act.put, s1_, s2_, s3_, i64_w, i32_w]; rfl)
     refine one_ (i := 6) (N := (some 28)) #[true, true, true, true, true, true, true, false, false] rfl rfl (by kernel_rfl) (by decide) (fun K hK => ?_)
     refine goes_ Try.func29 (by kernel_rfl) rfl #[v, .agg #[.int .i64 s.ro, .slice X0 m y0, .slice X1 m y1, .slice X2 m y2, .slice X3 s.bd.length y3]] (by rfl) rfl rfl (by (try simp only [List.map_toArray, List.map_cons, List.map_nil]); first | done | rfl) ?_
     refine (spec_SameState_m _ _ (stepS s (k : Int)) s _ hv.r (hOr.r.to bA) ⟨rfl, rfl, rfl⟩).mono ?_
     rintro e wb ⟨rfl, bb⟩
     refine ⟨_, rfl, ?_⟩
     rw [HSB.out]
     have bB := bA.trans bb
     refine hK.out _ _ ⟨pw_cell_below bB.out g0, pw_cell_below bB.out g1, pw_cell_below bB.out g2, pw_cell_below bB.out g3, pw_cell_below bB.out g4⟩ (fun hHeld => ?_)
     clear hK K; refine norm_ (a' := ?_) ?_ ?_; rotate_left; (show Act.put _ (some 28) _ = _; simp only [Act.put, s1_, s2_, s3_, i64_w, i32_w]; rfl)
     refine pq_ (i := 7) (N := (some 29)) (v := ?_) (a' := ?_) rfl rfl (by kernel_rfl) (fun _ _ _ h => h) (Or.inl ⟨by rfl, ?_⟩) ?_ ?_
     rotate_left; (intro w'; go_simp; with_reducible rfl); rotate_left; (simp only [Act.put, s1_, s2_, s3_, i64_w, i32_w]; rfl)
     clear hHeld
     refine last_ (i := 8) (N := (some 5)) #[true, true, true, true, true, true, true, true, true] rfl rfl (by kernel_rfl) (by decide) (fun K hK => ?_)
     refine value_ (w1 := ?_) (v := ?_) (by rfl) rfl ?_ ?_
     rotate_left 2
     ·go_simp
      constructor
      ·rfl
      ·rfl
     refine hK.out _ _ ?_
     clear hK K; refine norm_ (a' := ?_) ?_ ?_; rotate_left; (show Act.put _ (some 5) _ = _; simp only [Act.put, s1_, s2_, s3_, i64_w, i32_w]; rfl)
     refine done_ (by kernel_rfl) ?_
     have hW2 := hid (hW.out.trans bB)
     clear bD ba bA bb bB hW hOr g0 g1 g2 g3 g4
     go_wp2
     go_roundw
     case rel => exact ⟨k + 1, hkk.out.1, by go_num, congrArg Value.bool HN.out.symm, hW2⟩
     case measure => simp [intOf]; clear e1; omega
   ·have hk16 : k = 16 := by omega
    have t1 : decide ((k : Int) < 16) = false := decide_eq_false (by omega)
    have t2 : decide (k < 16) = false := decide_eq_false (by omega)
    rw [hk16]
    have HK16 := hid hk16
    clear hk16
    obtain ⟨same, hsame⟩ : ∃ q, sameTo s 16 = q := ⟨_, rfl⟩
    rw [hsame]
    have hRS := hid (show rest = true → same = true from fun h => by rw [← hsame]; exact sameTo_rest (StF.of HOK.out) (by rw [HREST.out, h]) 16)
    clear hsame
    have HB4 := hid (HB3.out.trans hW.out)
    go_wp2_with fail
    refine (impl_WaterLine _ s _ hOr.r HOK.out).mono ?_
    rintro e w4 ⟨rfl, b4⟩
    have hwl := wline_facts HOK.out s.lv.length (Nat.le_refl _)
    obtain ⟨lo, hlo⟩ : ∃ q, (wline s s.lv.length).1 = q := ⟨_, rfl⟩
    obtain ⟨hg, hhg⟩ : ∃ q, (wline s s.lv.length).2 = q := ⟨_, rfl⟩
    rw [hlo, hhg] at hwl ⊢
    rw [HM.out.1] at hwl
    have HWL := hid hwl
    clear hlo hhg hwl
    replace g0 := pw_cell_below b4.out g0
    replace g1 := pw_cell_below b4.out g1
    replace g2 := pw_cell_below b4.out g2
    replace g3 := pw_cell_below b4.out g3
    replace g4 := pw_cell_below b4.out g4
    have hO4 := hOr.to b4
    go_wp2_with fail
    refine (impl_DryLeaves _ s _ hO4.r HOK.out).mono ?_
    rintro e w5 ⟨v, rfl, hD, b5⟩
    rw [HM.out.1] at hD
    obtain ⟨AD, cD, rfl, _⟩ := hD.reads
    have HB5 := hid (HB4.out.trans (b4.trans b5))
    have HQ5 := hid (HQ3.out.to (hW.out.trans (b4.trans b5)))
    have J_g0 := hid (pw_cell_below b5.out g0)
    have J_g1 := hid (pw_cell_below b5.out g1)
    have J_g2 := hid (pw_cell_below b5.out g2)
    have J_g3 := hid (pw_cell_below b5.out g3)
    have J_g4 := hid (pw_cell_below b5.out g4)
    clear hD b4 b5 hO4 hOr hW g0 g1 g2 g3 g4
    go_wp2
    go_loopw [10, 11] (fun v10 v11 wr => ∃ i : Nat, i ≤ m ∧ v11 = .int .i64 i ∧ v10 = .int .i64 (dryN s.ms i) ∧ Hid (w5 = wr ∨ False)) (fun _ v11 _ => m - (intOf v11).toNat)
    case atStart => exact ⟨0, by omega, rfl, rfl, hid (Or.inl (by first | rfl | trivial))⟩
    case round =>
     obtain ⟨i, hi, rfl, rfl, hX⟩ := hrel
     obtain rfl : w5 = wr := by rcases hX.out with h | h; exact h; exact h.elim
     have g0 := J_g0.out
     have g1 := J_g1.out
     have g2 := J_g2.out
     have g3 := J_g3.out
     have g4 := J_g4.out
     by_cases hlt2 : i < m
     ·have u1 : decide ((i : Int) < (m : Int)) = true := decide_eq_true (by omega)
      obtain ⟨ad, rfl, hc⟩ := HQ5.out.nat i hlt2
      have hdl := dryN_le s.ms i
      have e1 : IntKind.i64.wrap ((i : Int) + 1) = (i : Int) + 1 := i64w (by omega) (by omega)
      have hkk := hid (show i + 1 ≤ m ∧ m - (i + 1) < m - i by clear e1; omega)
      have i0 : (0 : Int) ≤ (i : Int) := by clear e1; omega
      have i1 : (i : Int) < (m : Int) := by clear e1; omega
      obtain ⟨y, hy⟩ : ∃ y, rd s.ms (i : Int) = y := ⟨_, rfl⟩
      have hc2 : w5.cell? (ad.add i) = some (.int .i64 y) := by rw [← hy]; exact hc
      have HY := hid hy
      clear hc hy
      by_cases hz : y = 0
      ·have u2 : (y == 0) = true := by simp [hz]
       have e2 : IntKind.i64.wrap ((dryN s.ms i : Int) + 1) = (dryN s.ms i : Int) + 1 := i64w (by clear e1; omega) (by clear e1; omega)
       have HN := hid (show ((dryN s.ms (i + 1) : Nat) : Int) = (dryN s.ms i : Int) + 1 by rw [dryN, HY.out, if_pos hz]; omega)
       clear hz
       go_wp2
       go_roundw
       case rel => exact ⟨i + 1, hkk.out.1, by go_num, congrArg (Value.int .i64) HN.out.symm, hid (Or.inl (by first | rfl | trivial))⟩
       case measure => simp [intOf]; clear e1 e2; omega
      ·have u2 : (y == 0) = false := by simp [hz]
       have HN := hid (show ((dryN s.ms (i + 1) : Nat) : Int) = (dryN s.ms i : Int) by rw [dryN, HY.out, if_neg hz])
       clear hz
       go_wp2
       go_roundw
       case rel => exact ⟨i + 1, hkk.out.1, by go_num, congrArg (Value.int .i64) HN.out.symm, hid (Or.inl (by first | rfl | trivial))⟩
       case measure => simp [intOf]; clear e1; omega
     ·obtain rfl : m = i := by omega
      have u1 : decide ((m : Int) < (m : Int)) = false := decide_eq_false (by omega)
      have hwl := HWL.out
      have hdl := dryN_le s.ms m
      obtain ⟨dn, hdn⟩ : ∃ q, dryN s.ms m = q := ⟨_, rfl⟩
      rw [hdn] at hwl hdl ⊢
      have u2 : ((dn : Int) == (dn : Int)) = true := by simp
      have u3 : decide (lo ≤ hg) = true := decide_eq_true hwl.2.1
      have hRR := hRS.out
      have hB6 := HB5.out
      clear hdn
      by_cases hh : hg = 0
      ·have u4 : (hg == 0) = true := by simp [hh]
       have u5 : ((dn : Int) == (m : Int)) = true := by have := hwl.2.2.1.1 hh; simp; omega
       clear hwl hh
       cases rest with
       | false =>
        clear hRR
        go_wp2
        go_ret
        exact ⟨by simp, hB6⟩
       | true =>
        obtain rfl := hRR rfl
        clear hRR
        go_wp2
        go_ret
        exact ⟨by simp, hB6⟩
      ·have u4 : (hg == 0) = false := by simp [hh]
       have u5 : ((dn : Int) == (m : Int)) = false := by have := fun h => hh (hwl.2.2.1.2 h); simp; omega
       clear hwl hh
       cases rest with
       | false =>
        clear hRR
        go_wp2
        go_ret
        exact ⟨by simp, hB6⟩
       | true =>
        obtain rfl := hRR rfl
        clear hRR
        go_wp2
        go_ret
        exact ⟨by simp, hB6⟩
 ·have t1 : decide (1048576 < (n : Int)) = true := decide_eq_true (by omega)
  have T1 := hid t1
  clear t1
  go_enter Try.func6, Try.ntmps6
  go_wp2_with fail
  refine (toBool (lawbig _ _ _ _) T1.out).mono ?_
  rintro e w1 ⟨rfl, rfl⟩
  go_wp2
  go_ret
  exact ⟨rfl, Bw.refl _⟩
end Go.Proofs.Ytenijmalcchciaa.U
namespace Go.Proofs.Ytenijmalcchciaa.fnRest
open Go.ChangeShapes Go.WideShapes Go.ChangeAt Go.RowKit
open Go.ChangeMaps (open_string shut_string)
set_option linter.unusedVariables false
theorem own : ownKnob Try.prog.godebug = none := by kernel_rfl
theorem laidOut : laidOutB Try.prog = true := by kernel_rfl
def IsRow (k : IntKind) (w : World) (a : Option Addr) (len cap : Nat) (zs : List Int) : Prop :=
 (a = none ∧ len = 0 ∧ cap = 0 ∧ zs = []) ∨
 ∃ x, a = some x ∧ len ≤ cap ∧ cap ≤ maxLen ∧ zs.length = cap ∧ (∀ i, i < zs.length → w.cell? (x.add i) = some (.int k (zs.getD i 0))) ∧ ∀ n ∈ zs, (Lit.int k n).wf = true
theorem wf_u8 {x : Int} (h : (Lit.int .u8 x).wf = true) : 0 ≤ x ∧ x ≤ 255 := by
 have := h
 simp [Lit.wf, IntKind.min, IntKind.max, IntKind.signed, IntKind.bits] at this
 omega
set_option maxRecDepth 100000 in
theorem lifted (os : Os) (started : os.Started) (H : Type) (enc : TypeId × Value → H) :
  ReturnsInHanded {} Try.checked os 6 .any (Rows.fnRestSpec.pre6 enc Try.prog Try.f6 Rows.fnRestRow.domain false) (Rows.fnRestSpec.post enc Try.prog Try.f6 false true false false) := by
 refine returnsInHanded_of_change_sized (C := Try.checked) own started (by kernel_rfl) Try.func6
  (ChangeSpec.witness6 (enc := enc) (C := Try.checked) false ⟨#[], #[.slice none 0 0], []⟩ 8 (by kernel_rfl) (by kernel_rfl) (by kernel_rfl) (by kernel_rfl)) ?_
 intro W base args ds gs before hval0 hW hcnd hsz0 _
 have hsz : (DataW.weightsEach Try.prog (Try.f6.params.toList ++ Rows.fnRestSpec.plain.varTypes Try.prog) (ds ++ gs)).all (· ≤ reachBytes) = true := hsz0
 have hval : ∀ (j : Nat) t v, Try.f6.params[j]? = some t → args[j]? = some v → Value.okWide Try.prog W .any base t v := hval0
 have hW' := hW
 obtain ⟨p, q, hA0, hV, rfl, hfz, hnd⟩ := hW
 have hA : DataW.TrodAll enc Try.prog W 0 (fun _ => true) true Try.f6.params.toList args.toList ds p := hA0
 rw [Try.params6] at hA hval hsz
 obtain ⟨v0, vs0, d0, ds0, p0, q0, hargs, rfl, rfl, h0, r0⟩ := trodAll_cons hA
 obtain ⟨rfl, rfl, rfl⟩ := trodAll_nil r0
 obtain rfl : args = #[v0] := by cases args; simp_all
 obtain ⟨rfl, rfl⟩ := trodVars_none hV
 obtain ⟨a0, len0, cap0, rfl⟩ := okWide_slice Try.underlying45 (hval 0 45 v0 rfl rfl)
 have k0 := h0
 have lt0 : ∀ x ∈ p0, x.block < W.heap.size := by obtain ⟨m, hm⟩ := k0; exact DataW.trod_lt m _ _ _ hm
 obtain ⟨z0, w0⟩ : ∃ zs, IsRow .u8 W a0 len0 cap0 zs := by
  obtain ⟨fuel, hf⟩ := h0
  rcases open_ints Try.underlying45 Try.underlying5 (by kernel_rfl) hf with ⟨hcs, _⟩ | ⟨x, l, c, zs, hcs, _, hl, hm, hz, _, hcell, hwz⟩
  ·simp [Value.cells] at hcs
   obtain ⟨rfl, rfl, rfl⟩ := hcs
   exact ⟨[], .inl ⟨rfl, rfl, rfl, rfl⟩⟩
  ·simp [Value.cells] at hcs
   obtain ⟨rfl, rfl, rfl⟩ := hcs
   exact ⟨zs, .inr ⟨_, rfl, hl, hm, by simpa using hz, hcell, hwz⟩⟩
 obtain ⟨l0, hlen0, hr0, hm0, hw0, hc0⟩ := Go.Proofs.YtenijmalcchciaaW.PrintWords.ReadsInt.ofRowC w0
 subst hlen0
 clear hA0 hval0 hsz0 hsz
 refine (U.law_Rest a0 _ cap0 l0 W hr0 (fun x hx => wf_u8 (hw0 x hx))).mono fun e W' ⟨he, bel0⟩ => ?_
 have bel := bel0.out
 subst he
 exact ⟨_, rfl, _, _, _, [], _, [], hW', trodAll_mk1 (shut_bool Try.underlying4 _), (trodAll_cons_mk (Below.trod laidOut (by kernel_rfl) (of_decide_eq_true (by kernel_rfl)) k0 bel lt0) trodAll_mk0), rfl, bel.frame _, fun h => by cases h⟩
theorem over : Rows.fnRestRow.holds Try.pinned (OpenSpec.ofChange Rows.fnRestSpec) :=
 OpenClaim.holds_of_wide 6 Try.f6 rfl rfl rfl rfl rfl rfl rfl ⟨rfl, rfl, rfl, rfl, rfl⟩ rfl rfl rfl rfl rfl (by kernel_rfl) Try.func6 (by kernel_rfl)
  (of_decide_eq_true (by kernel_rfl)) (by unfold Func.isWrapper; first | (rw [if_pos (by decide +kernel)]; kernel_rfl) | (rw [if_neg (by decide +kernel)]; exact ⟨rfl, rfl⟩))
  (fun os started H enc _ => lifted os started H enc)
theorem proved : Rows.FnRestSaid := over
#print axioms proved
end Go.Proofs.Ytenijmalcchciaa.fnRest
namespace Go.Proofs.Ytenijmalcchciaa
theorem fnRest_holds : Rows.FnRestSaid := fnRest.proved
end Go.Proofs.Ytenijmalcchciaa
