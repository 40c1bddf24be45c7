
/- LocalFluxes: the plain law and the small functions. -/
import Derived.Test.YtkhjkcefkampkaaG14
import Derived.Test.YtkhjkcefkampkaaHc
import Derived.Test.YtkhjkcefkampkaaG9
import Derived.Test.YtkhjkcefkampkaaVw
set_option linter.unusedVariables false
set_option linter.unusedSimpArgs false
namespace Go.Proofs.Ytkhjkcefkampkaa.U
open Go.RowKit Go.Lib Go.Proofs.YtkhjkcefkampkaaW.PrintWords
attribute [local go_sem] go_max2 go_min2
structure Sd where
 e : Int
 l : Int
 m : Int
 s : Int
def faceV (a b : Sd) (t : Int) : Int := if a.e = 1 ∧ b.e = 1 ∧ actB t (bigMax a.l b.l) = true then pairF a.s b.s a.m b.m a.l b.l else 0
def ghS (gh : List Int) (k : Nat) : Sd := ⟨rd gh (k : Int), rd gh ((k + 1 : Nat) : Int), rd gh ((k + 2 : Nat) : Int), rd gh ((k + 3 : Nat) : Int)⟩
def lfS (lv : List Ce) (ms bd : List Int) (i : Nat) : Sd := ⟨1, (gc lv i).l, rd ms (i : Int), rd bd (gc lv i).r + rd ms (i : Int) * pow2 (gc lv i).l⟩
def sdA (lv : List Ce) (ms bd gh : List Int) (i : Nat) : Sd := if i = 0 then ghS gh 0 else if i ≤ lv.length then lfS lv ms bd (i - 1) else ghS gh 4
def known (gh : List Int) (k : Nat) : Bool := inR (rd gh (k : Int)) 0 1 && (inR (rd gh ((k + 1 : Nat) : Int)) 0 4 && (inR (rd gh ((k + 2 : Nat) : Int)) 0 10000000 && inR (rd gh ((k + 3 : Nat) : Int)) 0 10000000000))
def useAt (lv : List Ce) (ms bd : List Int) (i : Nat) : Bool := ceOk (gc lv i) && (decide ((gc lv i).r < (bd.length : Int)) && (inR (rd ms (i : Int)) 0 10000000 && inR (rd bd (gc lv i).r) 0 1000000))
def useTo (lv : List Ce) (ms bd : List Int) : Nat → Nat → Bool
 | 0, _ => true
 | d + 1, j => useAt lv ms bd j && useTo lv ms bd d (j + 1)
def usable (lv : List Ce) (ms bd gh : List Int) : Bool := decide (lv.length ≠ 0) && (decide (ms.length = lv.length) && (decide (gh.length = 8) && (useTo lv ms bd lv.length 0 && (known gh 0 && known gh 4))))
def locL (lv : List Ce) (ms bd gh : List Int) (t : Int) : List Int := if usable lv ms bd gh = true then rowOf (lv.length + 1) (fun i => faceV (sdA lv ms bd gh i) (sdA lv ms bd gh (i + 1)) t) else []
theorem useTo_at {lv : List Ce} {ms bd : List Int} : ∀ (d j : Nat), useTo lv ms bd d j = true → ∀ i, j ≤ i → i < j + d → useAt lv ms bd i = true
 | 0, j, _, i, h1, h2 => by omega
 | d + 1, j, h, i, h1, h2 => by
  rw [useTo, Bool.and_eq_true] at h
  rcases Nat.eq_or_lt_of_le h1 with rfl | h3
  ·exact h.1
  ·exact useTo_at d (j + 1) h.2 i h3 (by omega)
theorem useTo_no {lv : List Ce} {ms bd : List Int} : ∀ (d j i : Nat), j ≤ i → i < j + d → useAt lv ms bd i = false → useTo lv ms bd d j = false
 | 0, j, i, h1, h2, _ => by omega
 | d + 1, j, i, h1, h2, h => by
  rw [useTo]
  rcases Nat.eq_or_lt_of_le h1 with rfl | h3
  ·rw [h, Bool.false_and]
  ·rw [useTo_no d (j + 1) i h3 (by omega) h, Bool.and_false]
theorem useTo_yes {lv : List Ce} {ms bd : List Int} : ∀ (d j : Nat), (∀ i, j ≤ i → i < j + d → useAt lv ms bd i = true) → useTo lv ms bd d j = true
 | 0, j, _ => rfl
 | d + 1, j, h => by
  rw [useTo, h j (Nat.le_refl _) (by omega), useTo_yes d (j + 1) (fun i h1 h2 => h i (by omega) (by omega))]
  rfl
structure SdOk (a : Sd) : Prop where
 l : 0 ≤ a.l ∧ a.l ≤ 4
 m : 0 ≤ a.m ∧ a.m ≤ 10000000
 s : 0 ≤ a.s ∧ a.s ≤ 10000000000
theorem SdOk.fx {a b : Sd} (h : SdOk a) (k : SdOk b) : FxOk a.s b.s a.m b.m a.l b.l := by
 have h1 := h.l
 have h2 := h.m
 have h3 := h.s
 have k1 := k.l
 have k2 := k.m
 have k3 := k.s
 exact ⟨by omega, by omega, by omega, by omega, by omega, by omega⟩
theorem known_ok {gh : List Int} {k : Nat} (h : known gh k = true) : SdOk (ghS gh k) := by
 simp only [known, Bool.and_eq_true, inR_iff] at h
 exact ⟨h.2.1, h.2.2.1, h.2.2.2⟩
theorem use_ok {lv : List Ce} {ms bd : List Int} {i : Nat} (h : useAt lv ms bd i = true) : SdOk (lfS lv ms bd i) ∧ (0 ≤ (gc lv i).r ∧ (gc lv i).r < bd.length) ∧ (0 ≤ rd ms (i : Int) ∧ rd ms (i : Int) ≤ 10000000) ∧ (0 ≤ rd bd (gc lv i).r ∧ rd bd (gc lv i).r ≤ 1000000) ∧ (0 ≤ (gc lv i).l ∧ (gc lv i).l ≤ 4) := by
 simp only [useAt, Bool.and_eq_true, inR_iff, decide_eq_true_iff] at h
 have hf := ceOk_facts h.1
 have hp := pow2_range (gc lv i).l
 have e : rd ms (i : Int) * pow2 (gc lv i).l ≤ rd ms (i : Int) * 16 := Int.mul_le_mul_of_nonneg_left hp.2 h.2.2.1.1
 have f : 0 ≤ rd ms (i : Int) * pow2 (gc lv i).l := Int.mul_nonneg h.2.2.1.1 (by omega)
 refine ⟨⟨hf.2.1, h.2.2.1, ?_⟩, ⟨hf.1.1, h.2.1⟩, h.2.2.1, h.2.2.2, hf.2.1⟩
 show 0 ≤ rd bd _ + _ ∧ rd bd _ + _ ≤ _
 omega
theorem usable_parts {lv : List Ce} {ms bd gh : List Int} (h : usable lv ms bd gh = true) : lv.length ≠ 0 ∧ ms.length = lv.length ∧ gh.length = 8 ∧ (∀ i, i < lv.length → useAt lv ms bd i = true) ∧ known gh 0 = true ∧ known gh 4 = true := by
 simp only [usable, Bool.and_eq_true, decide_eq_true_iff] at h
 exact ⟨h.1, h.2.1, h.2.2.1, fun i hi => useTo_at _ 0 h.2.2.2.1 i (by omega) (by omega), h.2.2.2.2.1, h.2.2.2.2.2⟩
theorem sdA_ok {lv : List Ce} {ms bd gh : List Int} (h : usable lv ms bd gh = true) (i : Nat) : SdOk (sdA lv ms bd gh i) := by
 have hp := usable_parts h
 unfold sdA
 split
 ·exact known_ok hp.2.2.2.2.1
 ·split
  ·exact (use_ok (hp.2.2.2.1 (i - 1) (by omega))).1
  ·exact known_ok hp.2.2.2.2.2
set_option maxHeartbeats 4000000 in
theorem impl_isGhost (A : Option Addr) (n c : Nat) (l : List Int) (w : World) (r : RI w A n l) (hn : n = 4) :
  Calls Try.prog 94 #[.slice A n c] w fun e w' => e = .returned (.bool (known l 0)) ∧ w = w' := by
 subst hn
 obtain ⟨ad, rfl, x0⟩ := r.nat 0 (by omega)
 obtain ⟨_, e1, x1⟩ := r.nat 1 (by omega)
 obtain rfl := Option.some.inj e1
 obtain ⟨_, e2, x2⟩ := r.nat 2 (by omega)
 obtain rfl := Option.some.inj e2
 obtain ⟨_, e3, x3⟩ := r.nat 3 (by omega)
 obtain rfl := Option.some.inj e3
 rw [add_pos _ _ (by omega)] at x1 x2 x3
 replace x0 : w.cell? ad = some (.int .i64 (rd l ((0 : Nat) : Int))) := x0
 clear e1 e2 e3
 obtain ⟨q0, k0⟩ : ∃ q, rd l ((0 : Nat) : Int) = q := ⟨_, rfl⟩
 obtain ⟨q1, k1⟩ : ∃ q, rd l ((1 : Nat) : Int) = q := ⟨_, rfl⟩
 obtain ⟨q2, k2⟩ : ∃ q, rd l ((2 : Nat) : Int) = q := ⟨_, rfl⟩
 obtain ⟨q3, k3⟩ : ∃ q, rd l ((3 : Nat) : Int) = q := ⟨_, rfl⟩
 have HKN := hid (show known l 0 = (inR q0 0 1 && (inR q1 0 4 && (inR q2 0 10000000 && inR q3 0 10000000000))) by rw [known, Nat.zero_add, Nat.zero_add, Nat.zero_add, k0, k1, k2, k3])
 rw [k0] at x0
 rw [k1] at x1
 rw [k2] at x2
 rw [k3] at x3
 clear k0 k1 k2 k3
 cases h0 : inR q0 0 1 with
 | false =>
  have HK := hid (show known l 0 = false by rw [HKN.out, h0]; rfl)
  have H0 := hid h0
  clear h0
  go_enter Try.func94, Try.ntmps94
  go_wp2_with fail
  refine (within _ _ _ _).mono ?_
  rintro e w1 ⟨rfl, rfl⟩
  rw [H0.out]
  go_wp2
  go_ret
  exact ⟨ret_bool HK.out.symm, rfl⟩
 | true =>
  cases h1 : inR q1 0 4 with
  | false =>
   have HK := hid (show known l 0 = false by rw [HKN.out, h0, h1]; rfl)
   have H0 := hid h0
   have H1 := hid h1
   clear h0 h1
   go_enter Try.func94, Try.ntmps94
   go_wp2_with fail
   refine (within _ _ _ _).mono ?_
   rintro e w1 ⟨rfl, rfl⟩
   rw [H0.out]
   go_wp2_with fail
   refine (isLevel _ _).mono ?_
   rintro e w2 ⟨rfl, rfl⟩
   rw [H1.out]
   go_wp2
   go_ret
   exact ⟨ret_bool HK.out.symm, rfl⟩
  | true =>
   cases h2 : inR q2 0 10000000 with
   | false =>
    have HK := hid (show known l 0 = false by rw [HKN.out, h0, h1, h2]; rfl)
    have H0 := hid h0
    have H1 := hid h1
    have H2 := hid h2
    clear h0 h1 h2
    go_enter Try.func94, Try.ntmps94
    go_wp2_with fail
    refine (within _ _ _ _).mono ?_
    rintro e w1 ⟨rfl, rfl⟩
    rw [H0.out]
    go_wp2_with fail
    refine (isLevel _ _).mono ?_
    rintro e w2 ⟨rfl, rfl⟩
    rw [H1.out]
    go_wp2_with fail
    refine (within _ _ _ _).mono ?_
    rintro e w3 ⟨rfl, rfl⟩
    rw [H2.out]
    go_wp2
    go_ret
    exact ⟨ret_bool HK.out.symm, rfl⟩
   | true =>
    have HK := hid (show known l 0 = inR q3 0 10000000000 by rw [HKN.out, h0, h1, h2]; rfl)
    have H0 := hid h0
    have H1 := hid h1
    have H2 := hid h2
    clear h0 h1 h2
    go_enter Try.func94, Try.ntmps94
    go_wp2_with fail
    refine (within _ _ _ _).mono ?_
    rintro e w1 ⟨rfl, rfl⟩
    rw [H0.out]
    go_wp2_with fail
    refine (isLevel _ _).mono ?_
    rintro e w2 ⟨rfl, rfl⟩
    rw [H1.out]
    go_wp2_with fail
    refine (within _ _ _ _).mono ?_
    rintro e w3 ⟨rfl, rfl⟩
    rw [H2.out]
    go_wp2_with fail
    refine (within _ _ _ _).mono ?_
    rintro e w4 ⟨rfl, rfl⟩
    go_wp2
    go_ret
    exact ⟨ret_bool HK.out.symm, rfl⟩
set_option maxHeartbeats 4000000 in
theorem impl_activeFlux (a b : Sd) (t : Int) (w : World) (ha : SdOk a) (hb : SdOk b) (ht : t ≤ 9223372036854775807) :
  Calls Try.prog 53 #[.agg #[.int .i64 a.l, .int .i64 a.m, .int .i64 a.s], .agg #[.int .i64 b.l, .int .i64 b.m, .int .i64 b.s], .int .i64 t] w fun e w' => e = .returned (.int .i64 (if actB t (bigMax a.l b.l) = true then pairF a.s b.s a.m b.m a.l b.l else 0)) ∧ Bw w w' := by
 have b0 := (Bw.box1 w (.cells #[.int .i64 a.l, .int .i64 a.m, .int .i64 a.s] 79)).alloc (.cells #[.int .i64 b.l, .int .i64 b.m, .int .i64 b.s] 79)
 have g0 := box_cell ((Bw.refl (w.alloc (.cells #[.int .i64 a.l, .int .i64 a.m, .int .i64 a.s] 79))).alloc (.cells #[.int .i64 b.l, .int .i64 b.m, .int .i64 b.s] 79)) 0
 have g1 := box_cell ((Bw.refl (w.alloc (.cells #[.int .i64 a.l, .int .i64 a.m, .int .i64 a.s] 79))).alloc (.cells #[.int .i64 b.l, .int .i64 b.m, .int .i64 b.s] 79)) 1
 have g2 := box_cell ((Bw.refl (w.alloc (.cells #[.int .i64 a.l, .int .i64 a.m, .int .i64 a.s] 79))).alloc (.cells #[.int .i64 b.l, .int .i64 b.m, .int .i64 b.s] 79)) 2
 have h0 := box_cell (Bw.refl ((w.alloc (.cells #[.int .i64 a.l, .int .i64 a.m, .int .i64 a.s] 79)).alloc (.cells #[.int .i64 b.l, .int .i64 b.m, .int .i64 b.s] 79))) 0
 have h1 := box_cell (Bw.refl ((w.alloc (.cells #[.int .i64 a.l, .int .i64 a.m, .int .i64 a.s] 79)).alloc (.cells #[.int .i64 b.l, .int .i64 b.m, .int .i64 b.s] 79))) 1
 have h2 := box_cell (Bw.refl ((w.alloc (.cells #[.int .i64 a.l, .int .i64 a.m, .int .i64 a.s] 79)).alloc (.cells #[.int .i64 b.l, .int .i64 b.m, .int .i64 b.s] 79))) 2
 rw [show (w.alloc (.cells #[.int .i64 a.l, .int .i64 a.m, .int .i64 a.s] 79)).heap.size = w.heap.size + 1 by simp] at h0 h1 h2
 simp only [List.getElem?_toArray, List.getElem?_cons_zero, List.getElem?_cons_succ] at g0 g1 g2 h0 h1 h2
 cases hq : actB t (bigMax a.l b.l) with
 | false =>
  have HQ := hid hq
  clear hq
  go_enter Try.func53, Try.ntmps53
  go_upto_region 1 with fail
  generalize ((w.alloc (.cells #[.int .i64 a.l, .int .i64 a.m, .int .i64 a.s] 79)).alloc (.cells #[.int .i64 b.l, .int .i64 b.m, .int .i64 b.s] 79)) = W1 at *
  go_wp2_with fail
  refine (impl_IsActive t _ _ ht).mono ?_
  rintro e w1 ⟨rfl, rfl⟩
  rw [HQ.out]
  go_wp2
  go_ret
  exact ⟨rfl, b0⟩
 | true =>
  have HQ := hid hq
  clear hq
  go_enter Try.func53, Try.ntmps53
  go_upto_region 1 with fail
  generalize ((w.alloc (.cells #[.int .i64 a.l, .int .i64 a.m, .int .i64 a.s] 79)).alloc (.cells #[.int .i64 b.l, .int .i64 b.m, .int .i64 b.s] 79)) = W1 at *
  go_wp2_with fail
  refine (impl_IsActive t _ _ ht).mono ?_
  rintro e w1 ⟨rfl, rfl⟩
  rw [HQ.out]
  go_wp2_with fail
  refine (impl_flux _ _ _ _ _ _ _ (ha.fx hb)).mono ?_
  rintro e w2 ⟨rfl, b2⟩
  go_wp2
  go_ret
  exact ⟨rfl, b0.trans b2⟩
end Go.Proofs.Ytkhjkcefkampkaa.U
set_option linter.unusedVariables false
set_option linter.unusedSimpArgs false
namespace Go.Proofs.Ytkhjkcefkampkaa.U
open Go.RowKit Go.Lib Go.Proofs.YtkhjkcefkampkaaW.PrintWords
open Go.Proofs.YtkhjkcefkampkaaW.PrintLast Go.Proofs.YtkhjkcefkampkaaW.PrintMore
theorem info_side : (Try.prog.info? 79).map (fun i => (i.zero, i.size, i.bytes)) = some (some (.agg #[.int .i64 0, .int .i64 0, .int .i64 0]), 3, 24) := by kernel_rfl
def sdF (lv : List Ce) (ms bd : List Int) : Nat → List Int
 | 0 => []
 | k + 1 => sdF lv ms bd k ++ [(lfS lv ms bd k).l, (lfS lv ms bd k).m, (lfS lv ms bd k).s]
theorem sdF_len (lv : List Ce) (ms bd : List Int) : ∀ k, (sdF lv ms bd k).length = k * 3
 | 0 => rfl
 | k + 1 => by rw [sdF, List.length_append, sdF_len lv ms bd k]; simp; omega
theorem sdF_rd (lv : List Ce) (ms bd : List Int) (i : Nat) : ∀ k, i < k → rd (sdF lv ms bd k) ((i * 3 : Nat) : Int) = (lfS lv ms bd i).l ∧ rd (sdF lv ms bd k) ((i * 3 + 1 : Nat) : Int) = (lfS lv ms bd i).m ∧ rd (sdF lv ms bd k) ((i * 3 + 2 : Nat) : Int) = (lfS lv ms bd i).s
 | 0, h => by omega
 | k + 1, h => by
  have hl := sdF_len lv ms bd k
  rw [sdF]
  rcases Nat.lt_or_ge i k with h1 | h1
  ·have ih := sdF_rd lv ms bd i k h1
   have e : ∀ q : Nat, q < (sdF lv ms bd k).length → rd (sdF lv ms bd k ++ [(lfS lv ms bd k).l, (lfS lv ms bd k).m, (lfS lv ms bd k).s]) (q : Int) = rd (sdF lv ms bd k) (q : Int) := fun q hq => by
    rw [rd_nat, rd_nat, List.getD_eq_getElem?_getD, List.getD_eq_getElem?_getD, List.getElem?_append_left hq]
   rw [e _ (by omega), e _ (by omega), e _ (by omega)]
   exact ih
  ·obtain rfl : i = k := by omega
   have e : ∀ q : Nat, rd (sdF lv ms bd i ++ [(lfS lv ms bd i).l, (lfS lv ms bd i).m, (lfS lv ms bd i).s]) ((i * 3 + q : Nat) : Int) = [(lfS lv ms bd i).l, (lfS lv ms bd i).m, (lfS lv ms bd i).s].getD q 0 := fun q => by
    rw [rd_nat, List.getD_eq_getElem?_getD, List.getElem?_append_right (by omega), List.getD_eq_getElem?_getD]
    congr 2
    omega
   exact ⟨e 0, e 1, e 2⟩
theorem RI.sub {w : World} {ad : Addr} {n : Nat} {l : List Int} (r : RI w (some ad) n l) (i E : Nat) (h : i + E ≤ n) (hE : 0 < E) : RI w (some (ad.add i)) E ((l.drop i).take E) := ⟨by
 obtain ⟨h1, h2, h3⟩ := r.out
 refine ⟨by rw [List.length_take, List.length_drop]; omega, by omega, fun _ => ⟨_, rfl, fun j hj => ?_⟩⟩
 obtain ⟨ad', e, hc⟩ := h3 (by omega)
 obtain rfl := Option.some.inj e
 rw [Addr.add_add, hc (i + j) (by omega)]
 simp [List.getD_eq_getElem?_getD, hj]⟩
theorem known_sub (l : List Int) (i : Nat) : known ((l.drop i).take 4) 0 = known l i := by
 have e : ∀ q : Nat, q < 4 → rd ((l.drop i).take 4) ((0 + q : Nat) : Int) = rd l ((i + q : Nat) : Int) := fun q hq => by
  rw [rd_nat, rd_nat, List.getD_eq_getElem?_getD, List.getD_eq_getElem?_getD, List.getElem?_take, if_pos (by omega), List.getElem?_drop, Nat.zero_add]
 unfold known
 rw [show ((0 : Nat) : Int) = ((0 + 0 : Nat) : Int) from rfl, e 0 (by omega), e 1 (by omega), e 2 (by omega), e 3 (by omega)]
 rfl
theorem halves (ag : Addr) (cg : Nat) (hc : 8 ≤ cg) : (∀ W : World, (Instr.slice 31 (.slice (some ag) 8 cg) none (some (.int .i64 4)) none).run Try.prog W = .ok (.slice (some ag) 4 cg) W) ∧ (∀ W : World, (Instr.slice 31 (.slice (some ag) 8 cg) (some (.int .i64 4)) none none).run Try.prog W = .ok (.slice (some (ag.add 4)) 4 (cg - 4)) W) := by
 obtain ⟨i0, hi, hz0, hz1, hz2⟩ := info_parts info_int
 have h1 := cut_to (P := Try.prog) 31 3 .i64 Try.underlying31 hi (some ag) 8 cg (4 : Int) (by omega) (by omega) hc
 have h2 := cut_from (P := Try.prog) 31 3 .i64 Try.underlying31 hi 1 hz1 (some ag) 8 cg (4 : Int) (by omega) (by omega)
 have e : (if cg = (4 : Int).toNat then (some ag) else (some ag).map (·.add ((4 : Int).toNat * 1))) = some (ag.add 4) := if_neg (by have : (4 : Int).toNat = 4 := rfl; omega)
 rw [e] at h2
 exact ⟨h1, h2⟩
set_option maxHeartbeats 8000000 in
set_option maxRecDepth 100000 in
theorem impl_sides (ro fr : Int) (Al Am At Ab Ag : Option Addr) (n nm nt nb ng cl cm ct cb cg : Nat) (lv : List Ce) (ms bd gh : List Int) (w : World) (rl : IdR w Al n lv) (rm : RI w Am nm ms) (rb : RI w Ab nb bd) (rg : RI w Ag ng gh) (hcg : ng ≤ cg) (hn : n ≤ 1048576) :
  Calls Try.prog 51 #[.agg #[.int .i64 ro, .int .i64 fr, .slice Al n cl, .slice Am nm cm, .slice At nt ct, .slice Ab nb cb, .slice Ag ng cg]] w fun e w' => ∃ v, e = .returned (.tuple #[v, .bool (usable lv ms bd gh)]) ∧ (usable lv ms bd gh = true → FO w' w.heap.size 79 3 v n (sdF lv ms bd n)) ∧ Bw w w' := by
 have hln := rl.len
 have hlm := rm.len
 have hlb := rb.len
 have hlg := rg.len
 have b0 := Bw.box1 w (.cells #[.int .i64 ro, .int .i64 fr, .slice Al n cl, .slice Am nm cm, .slice At nt ct, .slice Ab nb cb, .slice Ag ng cg] 38)
 have g0 := box_cell (Bw.refl (w.alloc (.cells #[.int .i64 ro, .int .i64 fr, .slice Al n cl, .slice Am nm cm, .slice At nt ct, .slice Ab nb cb, .slice Ag ng cg] 38))) 0
 have g1 := box_cell (Bw.refl (w.alloc (.cells #[.int .i64 ro, .int .i64 fr, .slice Al n cl, .slice Am nm cm, .slice At nt ct, .slice Ab nb cb, .slice Ag ng cg] 38))) 1
 have g2 := box_cell (Bw.refl (w.alloc (.cells #[.int .i64 ro, .int .i64 fr, .slice Al n cl, .slice Am nm cm, .slice At nt ct, .slice Ab nb cb, .slice Ag ng cg] 38))) 2
 have g3 := box_cell (Bw.refl (w.alloc (.cells #[.int .i64 ro, .int .i64 fr, .slice Al n cl, .slice Am nm cm, .slice At nt ct, .slice Ab nb cb, .slice Ag ng cg] 38))) 3
 have g4 := box_cell (Bw.refl (w.alloc (.cells #[.int .i64 ro, .int .i64 fr, .slice Al n cl, .slice Am nm cm, .slice At nt ct, .slice Ab nb cb, .slice Ag ng cg] 38))) 4
 have g5 := box_cell (Bw.refl (w.alloc (.cells #[.int .i64 ro, .int .i64 fr, .slice Al n cl, .slice Am nm cm, .slice At nt ct, .slice Ab nb cb, .slice Ag ng cg] 38))) 5
 have g6 := box_cell (Bw.refl (w.alloc (.cells #[.int .i64 ro, .int .i64 fr, .slice Al n cl, .slice Am nm cm, .slice At nt ct, .slice Ab nb cb, .slice Ag ng cg] 38))) 6
 simp only [List.getElem?_toArray, List.getElem?_cons_zero, List.getElem?_cons_succ] at g0 g1 g2 g3 g4 g5 g6
 by_cases h0 : n = 0
 ·subst h0
  have HU := hid (show usable lv ms bd gh = false by simp [usable, hln])
  have t1 : (((0 : Nat) : Int) == 0) = true := rfl
  clear hln hlm hlb hlg
  go_enter Try.func51, Try.ntmps51
  go_wp2
  exact bodyPost_ret (v := .tuple #[.slice none 0 0, .bool false]) (by simp [results, Try.results51, go_sem]) rfl ⟨.slice none 0 0, by rw [HU.out], fun h => by (rw [HU.out] at h; cases h), b0⟩
 by_cases h1 : nm = n
 case neg =>
  have HU := hid (show usable lv ms bd gh = false by simp [usable, hln, hlm, h0, h1])
  have t1 : ((n : Int) == 0) = false := by simp [h0]
  have t2 : ((nm : Int) != (n : Int)) = true := by simp; omega
  clear hln hlm hlb hlg
  go_enter Try.func51, Try.ntmps51
  go_wp2
  exact bodyPost_ret (v := .tuple #[.slice none 0 0, .bool false]) (by simp [results, Try.results51, go_sem]) rfl ⟨.slice none 0 0, by rw [HU.out], fun h => by (rw [HU.out] at h; cases h), b0⟩
 subst h1
 by_cases h2 : ng = 8
 case neg =>
  have HU := hid (show usable lv ms bd gh = false by simp [usable, hln, hlm, hlg, h0, h2])
  have t1 : ((nm : Int) == 0) = false := by simp [h0]
  have t2 : ((nm : Int) != (nm : Int)) = false := by simp
  have t3 : ((ng : Int) != 8) = true := by simp; omega
  clear hln hlm hlb hlg
  go_enter Try.func51, Try.ntmps51
  go_wp2
  exact bodyPost_ret (v := .tuple #[.slice none 0 0, .bool false]) (by simp [results, Try.results51, go_sem]) rfl ⟨.slice none 0 0, by rw [HU.out], fun h => by (rw [HU.out] at h; cases h), b0⟩
 subst h2
 have h1n : 1 ≤ nm := by omega
 obtain ⟨ag, rfl, _⟩ := rg.nat 0 (by omega)
 have HHV := hid (halves ag cg hcg)
 have HUS := hid (show usable lv ms bd gh = (useTo lv ms bd nm 0 && (known gh 0 && known gh 4)) by simp [usable, hln, hlm, hlg, h0])
 have t1 : ((nm : Int) == 0) = false := by simp [h0]
 have t2 : ((nm : Int) != (nm : Int)) = false := by simp
 have hk0 := heap_alloc_new w (.cells #[.int .i64 ro, .int .i64 fr, .slice Al nm cl, .slice Am nm cm, .slice At nt ct, .slice Ab nb cb, .slice (some ag) 8 cg] 38 (0, 0))
 have HLB := hid hlb
 clear hln hlm hlb hlg h0
 go_enter Try.func51, Try.ntmps51
 go_upto_region 4 with fail
 have bL := Bw.box1 (w.alloc (.cells #[.int .i64 ro, .int .i64 fr, .slice Al nm cl, .slice Am nm cm, .slice At nt ct, .slice Ab nb cb, .slice (some ag) 8 cg] 38)) (.cells #[] 79)
 have hF0 := hid (show FO ((w.alloc (.cells #[.int .i64 ro, .int .i64 fr, .slice Al nm cl, .slice Am nm cm, .slice At nt ct, .slice Ab nb cb, .slice (some ag) 8 cg] 38)).alloc (.cells #[] 79)) (w.heap.size + 1) 79 3 (.slice (some ⟨w.heap.size + 1, 0, none⟩) 0 0) 0 (sdF lv ms bd 0) from by
  have h := (⟨World.ownsRow_lit (base := (w.alloc (.cells #[.int .i64 ro, .int .i64 fr, .slice Al nm cl, .slice Am nm cm, .slice At nt ct, .slice Ab nb cb, .slice (some ag) 8 cg] 38)).heap.size) (e := 79) (size := 3) (w.alloc (.cells #[.int .i64 ro, .int .i64 fr, .slice Al nm cl, .slice Am nm cm, .slice At nt ct, .slice Ab nb cb, .slice (some ag) 8 cg] 38)) #[] 0 (Nat.le_refl _) (by simp [maxLen]) (by simp)⟩ : FO _ _ 79 3 _ 0 (sdF lv ms bd 0))
  rw [show (w.alloc (.cells #[.int .i64 ro, .int .i64 fr, .slice Al nm cl, .slice Am nm cm, .slice At nt ct, .slice Ab nb cb, .slice (some ag) 8 cg] 38)).heap.size = w.heap.size + 1 by simp] at h
  exact h)
 have HSZ0 := hid (show (w.alloc (.cells #[.int .i64 ro, .int .i64 fr, .slice Al nm cl, .slice Am nm cm, .slice At nt ct, .slice Ab nb cb, .slice (some ag) 8 cg] 38)).heap.size = w.heap.size + 1 by simp)
 have HK0 := hid hk0
 have HB00 := hid b0
 have HB0 := hid bL
 replace g0 := pw_cell_below bL.out g0
 replace g1 := pw_cell_below bL.out g1
 replace g2 := pw_cell_below bL.out g2
 replace g3 := pw_cell_below bL.out g3
 replace g4 := pw_cell_below bL.out g4
 replace g5 := pw_cell_below bL.out g5
 replace g6 := pw_cell_below bL.out g6
 clear b0 bL hk0 t1 t2
 generalize ((w.alloc (.cells #[.int .i64 ro, .int .i64 fr, .slice Al nm cl, .slice Am nm cm, .slice At nt ct, .slice Ab nb cb, .slice (some ag) 8 cg] 38)).alloc (.cells #[] 79)) = W1 at *
 go_wp2
 clear g0 g1 g2 g3 g4 g5 g6
 go_loopw [4, 30] (fun v4 v30 wr => ∃ j : Nat, j ≤ nm ∧ v30 = .int .i64 j ∧ Hid (FO wr (w.heap.size + 1) 79 3 v4 j (sdF lv ms bd j)) ∧ Hid (Bw (w.alloc (.cells #[.int .i64 ro, .int .i64 fr, .slice Al nm cl, .slice Am nm cm, .slice At nt ct, .slice Ab nb cb, .slice (some ag) 8 cg] 38)) wr) ∧ Hid (∀ i, i < j → useAt lv ms bd i = true)) (fun _ v30 _ => nm - (intOf v30).toNat)
 case atStart => exact ⟨0, by omega, rfl, hF0, HB0, hid (fun i hi => by omega)⟩
 case round =>
  obtain ⟨j, hj, rfl, HF, HB, HU⟩ := hrel
  by_cases hlt : j < nm
  ·have t1 : decide ((j : Int) < (nm : Int)) = true := decide_eq_true (by omega)
   have hkb0 := (HB.out.out.block _ (blk_lt HK0.out)).trans HK0.out
   have HBw := hid (HB00.out.trans HB.out)
   have g0 := (blk_cell hkb0 0).trans (show _ = some (Value.int .i64 ro) from rfl)
   have g1 := (blk_cell hkb0 1).trans (show _ = some (Value.int .i64 fr) from rfl)
   have g2 := (blk_cell hkb0 2).trans (show _ = some (Value.slice Al nm cl) from rfl)
   have g3 := (blk_cell hkb0 3).trans (show _ = some (Value.slice Am nm cm) from rfl)
   have g4 := (blk_cell hkb0 4).trans (show _ = some (Value.slice At nt ct) from rfl)
   have g5 := (blk_cell hkb0 5).trans (show _ = some (Value.slice Ab nb cb) from rfl)
   have g6 := (blk_cell hkb0 6).trans (show _ = some (Value.slice (some ag) 8 cg) from rfl)
   obtain ⟨al, rfl, x0, x1, x2⟩ := (rl.to HBw.out).at j hlt
   obtain ⟨am, rfl, xm⟩ := (rm.to HBw.out).nat j hlt
   obtain ⟨q0, q1, q2, hq⟩ : ∃ q0 q1 q2, gc lv j = ⟨q0, q1, q2⟩ := ⟨_, _, _, rfl⟩
   obtain ⟨m, hm⟩ : ∃ m, rd ms (j : Int) = m := ⟨_, rfl⟩
   rw [hq] at x0 x1 x2
   simp only at x0 x1 x2
   rw [hm] at xm
   have HUA := hid (show useAt lv ms bd j = (ceOk ⟨q0, q1, q2⟩ && (decide (q0 < (nb : Int)) && (inR m 0 10000000 && inR (rd bd q0) 0 1000000))) by rw [useAt, hq, hm, HLB.out])
   have HUF := hid (fun (h : useAt lv ms bd j = false) => show usable lv ms bd gh = false by rw [HUS.out, useTo_no nm 0 j (by omega) (by omega) h]; rfl)
   have HQ := hid (And.intro hq hm)
   have bx := Bw.box1 wr (.cells #[.int .i64 q0, .int .i64 q1, .int .i64 q2] 70)
   have y0 := box_cell (Bw.refl (wr.alloc (.cells #[.int .i64 q0, .int .i64 q1, .int .i64 q2] 70))) 0
   have y1 := box_cell (Bw.refl (wr.alloc (.cells #[.int .i64 q0, .int .i64 q1, .int .i64 q2] 70))) 1
   have y2 := box_cell (Bw.refl (wr.alloc (.cells #[.int .i64 q0, .int .i64 q1, .int .i64 q2] 70))) 2
   simp only [List.getElem?_toArray, List.getElem?_cons_zero, List.getElem?_cons_succ] at y0 y1 y2
   have i0 : (0 : Int) ≤ (j : Int) := by omega
   have i1 : (j : Int) < (nm : Int) := by omega
   have e1 : IntKind.i64.wrap ((j : Int) + 1) = (j : Int) + 1 := i64w (by omega) (by omega)
   have HB2 := hid (HB.out.trans bx)
   have hkk := hid (show j + 1 ≤ nm ∧ nm - (j + 1) < nm - j by clear e1; omega)
   have HF2 := hid (HF.out.to bx)
   replace g0 := pw_cell_below bx.out g0
   replace g1 := pw_cell_below bx.out g1
   replace g2 := pw_cell_below bx.out g2
   replace g3 := pw_cell_below bx.out g3
   replace g4 := pw_cell_below bx.out g4
   replace g5 := pw_cell_below bx.out g5
   replace g6 := pw_cell_below bx.out g6
   clear hq hm hkb0
   cases hc : ceOk ⟨q0, q1, q2⟩ with
   | false =>
    have HU := hid (HUF.out (by rw [HUA.out, hc]; rfl))
    have HC := hid hc
    clear hc
    go_upto_region 7 with fail
    generalize (wr.alloc (.cells #[.int .i64 q0, .int .i64 q1, .int .i64 q2] 70)) = W2 at *
    clear x0 x1 x2
    go_wp2_with fail
    refine (impl_IdOk q0 q1 q2 _).mono ?_
    rintro e w3 ⟨rfl, b3⟩
    rw [HC.out]
    have HB3 := hid (HB2.out.trans b3)
    go_wp2
    exact bodyPost_ret (v := .tuple #[.slice none 0 0, .bool false]) (by simp [results, Try.results51, go_sem]) rfl ⟨.slice none 0 0, by rw [HU.out], fun h => by (rw [HU.out] at h; cases h), HB00.out.trans HB3.out⟩
   | true =>
    have hf := ceOk_facts hc
    obtain ⟨k, hk⟩ : ∃ k : Nat, q0 = (k : Int) := ⟨q0.toNat, by have := hf.1.1; clear e1; simp at this; omega⟩
    have hlev : 0 ≤ q1 ∧ q1 ≤ 4 := hf.2.1
    subst hk
    have HC := hid hc
    clear hf
    by_cases hkb : k < nb
    case neg =>
     have HU := hid (HUF.out (by rw [HUA.out, hc, decide_eq_false (by clear e1; omega)]; rfl))
     have u1 : decide ((k : Int) ≥ (nb : Int)) = true := decide_eq_true (by clear e1; omega)
     have u2 : decide ((nb : Int) ≤ (k : Int)) = true := decide_eq_true (by clear e1; omega)
     have u3 : decide (nb ≤ k) = true := decide_eq_true (by clear e1; omega)
     clear hc hlev
     go_upto_region 7 with fail
     generalize (wr.alloc (.cells #[.int .i64 (k : Int), .int .i64 q1, .int .i64 q2] 70)) = W2 at *
     clear x0 x1 x2
     go_wp2_with fail
     refine (impl_IdOk (k : Int) q1 q2 _).mono ?_
     rintro e w3 ⟨rfl, b3⟩
     rw [HC.out]
     have HB3 := hid (HB2.out.trans b3)
     replace g0 := pw_cell_below b3.out g0
     replace g1 := pw_cell_below b3.out g1
     replace g2 := pw_cell_below b3.out g2
     replace g3 := pw_cell_below b3.out g3
     replace g4 := pw_cell_below b3.out g4
     replace g5 := pw_cell_below b3.out g5
     replace g6 := pw_cell_below b3.out g6
     replace y0 := pw_cell_below b3.out y0
     replace y1 := pw_cell_below b3.out y1
     replace y2 := pw_cell_below b3.out y2
     go_wp2
     exact bodyPost_ret (v := .tuple #[.slice none 0 0, .bool false]) (by simp [results, Try.results51, go_sem]) rfl ⟨.slice none 0 0, by rw [HU.out], fun h => by (rw [HU.out] at h; cases h), HB00.out.trans HB3.out⟩
    case pos =>
     obtain ⟨ab, rfl, xb⟩ := (rb.to HBw.out).nat k hkb
     obtain ⟨b, hb⟩ : ∃ b, rd bd (k : Int) = b := ⟨_, rfl⟩
     rw [hb] at xb
     rw [hb] at HUA
     have HBD := hid hb
     have u1 : decide ((k : Int) ≥ (nb : Int)) = false := decide_eq_false (by clear e1; omega)
     have u2 : decide ((nb : Int) ≤ (k : Int)) = false := decide_eq_false (by clear e1; omega)
     have u3 : decide (nb ≤ k) = false := decide_eq_false (by clear e1; omega)
     have k0 : (0 : Int) ≤ (k : Int) := by clear e1; omega
     have k1 : (k : Int) < (nb : Int) := by clear e1; omega
     replace xm := pw_cell_below bx.out xm
     replace xb := pw_cell_below bx.out xb
     cases hmm : inR m 0 10000000 with
     | false =>
      have HU := hid (HUF.out (by rw [HUA.out, hc, hmm, decide_eq_true k1]; rfl))
      have HMM := hid hmm
      clear hc hmm hlev hb
      go_upto_region 7 with fail
      generalize (wr.alloc (.cells #[.int .i64 (k : Int), .int .i64 q1, .int .i64 q2] 70)) = W2 at *
      clear x0 x1 x2
      go_wp2_with fail
      refine (impl_IdOk (k : Int) q1 q2 _).mono ?_
      rintro e w3 ⟨rfl, b3⟩
      rw [HC.out]
      have HB3 := hid (HB2.out.trans b3)
      replace g0 := pw_cell_below b3.out g0
      replace g1 := pw_cell_below b3.out g1
      replace g2 := pw_cell_below b3.out g2
      replace g3 := pw_cell_below b3.out g3
      replace g4 := pw_cell_below b3.out g4
      replace g5 := pw_cell_below b3.out g5
      replace g6 := pw_cell_below b3.out g6
      replace y0 := pw_cell_below b3.out y0
      replace y1 := pw_cell_below b3.out y1
      replace y2 := pw_cell_below b3.out y2
      replace xm := pw_cell_below b3.out xm
      go_wp2_with fail
      refine (within _ _ _ _).mono ?_
      rintro e w4 ⟨rfl, rfl⟩
      rw [HMM.out]
      go_wp2
      exact bodyPost_ret (v := .tuple #[.slice none 0 0, .bool false]) (by simp [results, Try.results51, go_sem]) rfl ⟨.slice none 0 0, by rw [HU.out], fun h => by (rw [HU.out] at h; cases h), HB00.out.trans HB3.out⟩
     | true =>
      cases hbb : inR b 0 1000000 with
      | false =>
       have HU := hid (HUF.out (by rw [HUA.out, hc, hmm, hbb, decide_eq_true k1]; rfl))
       have HMM := hid hmm
       have HBBI := hid hbb
       clear hc hmm hlev hb hbb
       go_upto_region 7 with fail
       generalize (wr.alloc (.cells #[.int .i64 (k : Int), .int .i64 q1, .int .i64 q2] 70)) = W2 at *
       clear x0 x1 x2
       go_wp2_with fail
       refine (impl_IdOk (k : Int) q1 q2 _).mono ?_
       rintro e w3 ⟨rfl, b3⟩
       rw [HC.out]
       have HB3 := hid (HB2.out.trans b3)
       replace g0 := pw_cell_below b3.out g0
       replace g1 := pw_cell_below b3.out g1
       replace g2 := pw_cell_below b3.out g2
       replace g3 := pw_cell_below b3.out g3
       replace g4 := pw_cell_below b3.out g4
       replace g5 := pw_cell_below b3.out g5
       replace g6 := pw_cell_below b3.out g6
       replace y0 := pw_cell_below b3.out y0
       replace y1 := pw_cell_below b3.out y1
       replace y2 := pw_cell_below b3.out y2
       replace xm := pw_cell_below b3.out xm
       replace xb := pw_cell_below b3.out xb
       go_wp2_with fail
       refine (within _ _ _ _).mono ?_
       rintro e w4 ⟨rfl, rfl⟩
       rw [HMM.out]
       go_wp2_with fail
       refine (impl_isBed _ _).mono ?_
       rintro e w5 ⟨rfl, rfl⟩
       rw [HBBI.out]
       go_wp2
       exact bodyPost_ret (v := .tuple #[.slice none 0 0, .bool false]) (by simp [results, Try.results51, go_sem]) rfl ⟨.slice none 0 0, by rw [HU.out], fun h => by (rw [HU.out] at h; cases h), HB00.out.trans HB3.out⟩
      | true =>
       have hyes : useAt lv ms bd j = true := by rw [HUA.out, hc, hmm, hbb, decide_eq_true k1]; rfl
       have HU3 := hid (show ∀ i, i < j + 1 → useAt lv ms bd i = true from fun i hi => by
        rcases Nat.lt_or_ge i j with h | h
        ·exact HU.out i h
        ·obtain rfl : i = j := by clear e1; omega
         exact hyes)
       have HMM := hid hmm
       have HBBI := hid hbb
       have hmr := inR_iff.1 hmm
       have hbr := inR_iff.1 hbb
       have hsn : sdF lv ms bd (j + 1) = sdF lv ms bd j ++ [q1, m, b + m * pow2 q1] := by
        rw [sdF]
        simp only [lfS, HQ.out.1, HQ.out.2, HBD.out]
       have HSN0 := hid hsn
       clear hc hmm hb hbb hyes hsn
       go_upto_region 7 with fail
       generalize (wr.alloc (.cells #[.int .i64 (k : Int), .int .i64 q1, .int .i64 q2] 70)) = W2 at *
       clear x0 x1 x2
       go_wp2_with fail
       refine (impl_IdOk (k : Int) q1 q2 _).mono ?_
       rintro e w3 ⟨rfl, b3⟩
       rw [HC.out]
       replace HB2 := hid (HB2.out.trans b3)
       replace HF2 := hid (HF2.out.to b3)
       replace g0 := pw_cell_below b3.out g0
       replace g1 := pw_cell_below b3.out g1
       replace g2 := pw_cell_below b3.out g2
       replace g3 := pw_cell_below b3.out g3
       replace g4 := pw_cell_below b3.out g4
       replace g5 := pw_cell_below b3.out g5
       replace g6 := pw_cell_below b3.out g6
       replace y0 := pw_cell_below b3.out y0
       replace y1 := pw_cell_below b3.out y1
       replace y2 := pw_cell_below b3.out y2
       replace xm := pw_cell_below b3.out xm
       replace xb := pw_cell_below b3.out xb
       go_wp2_with fail
       refine (within _ _ _ _).mono ?_
       rintro e w4 ⟨rfl, rfl⟩
       rw [HMM.out]
       go_wp2_with fail
       refine (impl_isBed _ _).mono ?_
       rintro e w5 ⟨rfl, rfl⟩
       rw [HBBI.out]
       go_upto_region 9 with fail
       have h5 : q1 = 0 ∨ q1 = 1 ∨ q1 = 2 ∨ q1 = 3 ∨ q1 = 4 := by clear e1; omega
       rcases h5 with rfl | rfl | rfl | rfl | rfl
       ·have hmr' := hmr
        obtain ⟨mp, hmp⟩ : ∃ mp, m * 1 = mp := ⟨_, rfl⟩
        have hmpb : 0 ≤ mp ∧ mp ≤ 160000000 := by clear e1; omega
        obtain ⟨s, hs⟩ : ∃ s, b + mp = s := ⟨_, rfl⟩
        have HSN := hid (show sdF lv ms bd (j + 1) = sdF lv ms bd j ++ [0, m, s] by rw [HSN0.out, show pow2 0 = 1 from rfl, hmp, hs])
        have hm1 : m = mp := by clear e1; omega
        subst hm1
        have eA : wrap64 m = m := w64 (by clear e1 hmp hs; omega) (by clear e1 hmp hs; omega)
        have eB : IntKind.i64.wrap m = m := i64w (by clear e1 eA hmp hs; omega) (by clear e1 eA hmp hs; omega)
        have eC : wrap64 (b + m) = s := by rw [hs]; exact w64 (by clear e1 eA eB; omega) (by clear e1 eA eB; omega)
        have eD : IntKind.i64.wrap (b + m) = s := by rw [hs]; exact i64w (by clear e1 eA eB eC; omega) (by clear e1 eA eB eC; omega)
        clear hmp hs hmr'
        refine start_ (n := 27) (S := fun w' => w'.cell? ⟨wr.heap.size, 0, none⟩ = some (.int .i64 (k : Int)) ∧ w'.cell? ⟨wr.heap.size, 1, none⟩ = some (.int .i64 0) ∧ w'.cell? ⟨w.heap.size, 3, none⟩ = some (.slice (some am) nm cm) ∧ w'.cell? ⟨w.heap.size, 5, none⟩ = some (.slice (some ab) nb cb) ∧ w'.cell? (am.add j) = some (.int .i64 m) ∧ w'.cell? (ab.add k) = some (.int .i64 b)) (ds := [25, 26]) #[false, false, false, false, false, false, false, false, false, false, false, false, false, false, false, false, false, false, false, false, false, false, false, false, false, false, false] (by kernel_rfl) rfl rfl ⟨y0, y1, g3, g5, xm, xb⟩ (fun hHeld => ?_)
        have bD := Bw.drawn (a := w3) ⟨⟨1, rfl⟩⟩
        refine pq_ (i := 0) (N := (some 65)) (v := ?_) (a' := ?_) rfl rfl (by kernel_rfl) (fun _ _ _ h => h) (Or.inl ⟨by rfl, ?_⟩) ?_ ?_
        rotate_left; (intro w'; go_simp; with_reducible rfl); rotate_left; (simp only [Act.put, s1_, s2_, s3_, i64_w, i32_w]; rfl)
        refine pq_ (i := 1) (N := (some 66)) (v := ?_) (a' := ?_) rfl rfl (by kernel_rfl) (fun _ _ _ h => h) (Or.inl ⟨by rfl, ?_⟩) ?_ ?_
        rotate_left; (intro w'; go_simp; with_reducible rfl); rotate_left; (simp only [Act.put, s1_, s2_, s3_, i64_w, i32_w]; rfl)
        refine tq_ (i := 2) (N := (some 67)) (v := ?_) (a' := ?_) rfl rfl (by kernel_rfl) (fun _ _ _ h => h) (Or.inl ⟨by rfl, ?_⟩) hHeld ?_ ?_
        rotate_left; (rintro w' ⟨s0, s1, s2, s3, s4, s5⟩; go_simp; with_reducible rfl); rotate_left; (simp only [Act.put, s1_, s2_, s3_, i64_w, i32_w]; rfl)
        refine pq_ (i := 3) (N := (some 68)) (v := ?_) (a' := ?_) rfl rfl (by kernel_rfl) (fun _ _ _ h => h) (Or.inl ⟨by rfl, ?_⟩) ?_ ?_
        rotate_left; (intro w'; go_simp; with_reducible rfl); rotate_left; (simp only [Act.put, s1_, s2_, s3_, i64_w, i32_w]; rfl)
        refine tq_ (i := 4) (N := (some 69)) (v := ?_) (a' := ?_) rfl rfl (by kernel_rfl) (fun _ _ _ h => h) (Or.inl ⟨by rfl, ?_⟩) hHeld ?_ ?_
        rotate_left; (rintro w' ⟨s0, s1, s2, s3, s4, s5⟩; go_simp; with_reducible rfl); rotate_left; (simp only [Act.put, s1_, s2_, s3_, i64_w, i32_w]; rfl)
        refine pq_ (i := 5) (N := (some 70)) (v := ?_) (a' := ?_) rfl rfl (by kernel_rfl) (fun _ _ _ h => h) (Or.inl ⟨by rfl, ?_⟩) ?_ ?_
        rotate_left; (intro w'; go_simp; with_reducible rfl); rotate_left; (simp only [Act.put, s1_, s2_, s3_, i64_w, i32_w]; rfl)
        refine pq_ (i := 6) (N := (some 71)) (v := ?_) (a' := ?_) rfl rfl (by kernel_rfl) (fun _ _ _ h => h) (Or.inl ⟨by rfl, ?_⟩) ?_ ?_
        rotate_left; (intro w'; go_simp; with_reducible rfl); rotate_left; (simp only [Act.put, s1_, s2_, s3_, i64_w, i32_w]; rfl)
        refine tq_ (i := 7) (N := (some 72)) (v := ?_) (a' := ?_) rfl rfl (by kernel_rfl) (fun _ _ _ h => h) (Or.inl ⟨by rfl, ?_⟩) hHeld ?_ ?_
        rotate_left; (rintro w' ⟨s0, s1, s2, s3, s4, s5⟩; go_simp; with_reducible rfl); rotate_left; (simp only [Act.put, s1_, s2_, s3_, i64_w, i32_w]; rfl)
        refine pq_ (i := 8) (N := (some 73)) (v := ?_) (a' := ?_) rfl rfl (by kernel_rfl) (fun _ _ _ h => h) (Or.inl ⟨by rfl, ?_⟩) ?_ ?_
        rotate_left; (intro w'; go_simp; with_reducible rfl); rotate_left; (simp only [Act.put, s1_, s2_, s3_, i64_w, i32_w]; rfl)
        refine tq_ (i := 9) (N := (some 74)) (v := ?_) (a' := ?_) rfl rfl (by kernel_rfl) (fun _ _ _ h => h) (Or.inl ⟨by rfl, ?_⟩) hHeld ?_ ?_
        rotate_left; (rintro w' ⟨s0, s1, s2, s3, s4, s5⟩; go_simp; with_reducible rfl); rotate_left; (simp only [Act.put, s1_, s2_, s3_, i64_w, i32_w]; rfl)
        refine pq_ (i := 10) (N := (some 75)) (v := ?_) (a' := ?_) rfl rfl (by kernel_rfl) (fun _ _ _ h => h) (Or.inl ⟨by rfl, ?_⟩) ?_ ?_
        rotate_left; (intro w'; go_simp; with_reducible rfl); rotate_left; (simp only [Act.put, s1_, s2_, s3_, i64_w, i32_w]; rfl)
        refine tq_ (i := 11) (N := (some 76)) (v := ?_) (a' := ?_) rfl rfl (by kernel_rfl) (fun _ _ _ h => h) (Or.inl ⟨by rfl, ?_⟩) hHeld ?_ ?_
        rotate_left; (rintro w' ⟨s0, s1, s2, s3, s4, s5⟩; go_simp; with_reducible rfl); rotate_left; (simp only [Act.put, s1_, s2_, s3_, i64_w, i32_w]; rfl)
        refine pq_ (i := 12) (N := (some 77)) (v := ?_) (a' := ?_) rfl rfl (by kernel_rfl) (fun _ _ _ h => h) (Or.inl ⟨by rfl, ?_⟩) ?_ ?_
        rotate_left; (intro w'; go_simp; with_reducible rfl); rotate_left; (simp only [Act.put, s1_, s2_, s3_, i64_w, i32_w]; rfl)
        refine tq_ (i := 13) (N := (some 78)) (v := ?_) (a' := ?_) rfl rfl (by kernel_rfl) (fun _ _ _ h => h) (Or.inl ⟨by rfl, ?_⟩) hHeld ?_ ?_
        rotate_left; (rintro w' ⟨s0, s1, s2, s3, s4, s5⟩; go_simp; with_reducible rfl); rotate_left; (simp only [Act.put, s1_, s2_, s3_, i64_w, i32_w]; rfl)
        refine pq_ (i := 14) (N := (some 79)) (v := ?_) (a' := ?_) rfl rfl (by kernel_rfl) (fun _ _ _ h => h) (Or.inl ⟨by rfl, ?_⟩) ?_ ?_
        rotate_left; (intro w'; go_simp; with_reducible rfl); rotate_left; (simp only [Act.put, s1_, s2_, s3_, i64_w, i32_w]; rfl)
        refine tq_ (i := 15) (N := (some 80)) (v := ?_) (a' := ?_) rfl rfl (by kernel_rfl) (fun _ _ _ h => h) (Or.inl ⟨by rfl, ?_⟩) hHeld ?_ ?_
        rotate_left; (rintro w' ⟨s0, s1, s2, s3, s4, s5⟩; go_simp; with_reducible rfl); rotate_left; (simp only [Act.put, s1_, s2_, s3_, i64_w, i32_w]; rfl)
        refine pq_ (i := 16) (N := (some 81)) (v := ?_) (a' := ?_) rfl rfl (by kernel_rfl) (fun _ _ _ h => h) (Or.inl ⟨by rfl, ?_⟩) ?_ ?_
        rotate_left; (intro w'; go_simp; with_reducible rfl); rotate_left; (simp only [Act.put, s1_, s2_, s3_, i64_w, i32_w]; rfl)
        refine pq_ (i := 17) (N := (some 82)) (v := ?_) (a' := ?_) rfl rfl (by kernel_rfl) (fun _ _ _ h => h) (Or.inl ⟨by rfl, ?_⟩) ?_ ?_
        rotate_left; (intro w'; go_simp; with_reducible rfl); rotate_left; (simp only [Act.put, s1_, s2_, s3_, i64_w, i32_w]; rfl)
        refine tq_ (i := 18) (N := (some 83)) (v := ?_) (a' := ?_) rfl rfl (by kernel_rfl) (fun _ _ _ h => h) (Or.inl ⟨by rfl, ?_⟩) hHeld ?_ ?_
        rotate_left; (rintro w' ⟨s0, s1, s2, s3, s4, s5⟩; go_simp; with_reducible rfl); rotate_left; (simp only [Act.put, s1_, s2_, s3_, i64_w, i32_w]; rfl)
        refine pq_ (i := 19) (N := (some 84)) (v := ?_) (a' := ?_) rfl rfl (by kernel_rfl) (fun _ _ _ h => h) (Or.inl ⟨by rfl, ?_⟩) ?_ ?_
        rotate_left; (intro w'; go_simp; with_reducible rfl); rotate_left; (simp only [Act.put, s1_, s2_, s3_, i64_w, i32_w]; rfl)
        refine tq_ (i := 20) (N := (some 85)) (v := ?_) (a' := ?_) rfl rfl (by kernel_rfl) (fun _ _ _ h => h) (Or.inl ⟨by rfl, ?_⟩) hHeld ?_ ?_
        rotate_left; (rintro w' ⟨s0, s1, s2, s3, s4, s5⟩; go_simp; with_reducible rfl); rotate_left; (simp only [Act.put, s1_, s2_, s3_, i64_w, i32_w]; rfl)
        refine pq_ (i := 21) (N := (some 86)) (v := ?_) (a' := ?_) rfl rfl (by kernel_rfl) (fun _ _ _ h => h) (Or.inl ⟨by rfl, ?_⟩) ?_ ?_
        rotate_left; (intro w'; go_simp; with_reducible rfl); rotate_left; (simp only [Act.put, s1_, s2_, s3_, i64_w, i32_w]; rfl)
        refine pq_ (i := 22) (N := (some 87)) (v := ?_) (a' := ?_) rfl rfl (by kernel_rfl) (fun _ _ _ h => h) (Or.inl ⟨by rfl, ?_⟩) ?_ ?_
        rotate_left; (intro w'; go_simp; with_reducible rfl); rotate_left; (simp only [Act.put, s1_, s2_, s3_, i64_w, i32_w]; rfl)
        refine pq_ (i := 23) (N := (some 88)) (v := ?_) (a' := ?_) rfl rfl (by kernel_rfl) (fun _ _ _ h => h) (Or.inl ⟨by rfl, ?_⟩) ?_ ?_
        rotate_left; (intro w'; go_simp; with_reducible rfl); rotate_left; (simp only [Act.put, s1_, s2_, s3_, i64_w, i32_w]; rfl)
        clear hHeld
        have bA := Bw.box1 (w3.drewN 1) (.cells #[.int .i64 0, .int .i64 m, .int .i64 s] 79)
        have bDA := bD.trans bA
        refine one_ (i := 24) (N := (some 89)) #[true, true, true, true, true, true, true, true, true, true, true, true, true, true, true, true, true, true, true, true, true, true, true, true, true, false, false] rfl rfl (by kernel_rfl) (by decide) (fun K hK => ?_)
        refine value_ (w1 := ?_) (v := ?_) (by rfl) rfl ?_ ?_
        rotate_left 2
        ·go_simp
         constructor
         ·rfl
         ·rfl
        refine hK.out _ _ ⟨pw_cell_below bDA.out y0, pw_cell_below bDA.out y1, pw_cell_below bDA.out g3, pw_cell_below bDA.out g5, pw_cell_below bDA.out xm, pw_cell_below bDA.out xb⟩ (fun hHeld => ?_)
        clear hK K; refine norm_ (a' := ?_) ?_ ?_; rotate_left; (show Act.put _ (some 89) _ = _; simp only [Act.put, s1_, s2_, s3_, i64_w, i32_w]; rfl)
        refine last_ (i := 25) (N := (some 90)) #[true, true, true, true, true, true, true, true, true, true, true, true, true, true, true, true, true, true, true, true, true, true, true, true, true, true, false] rfl rfl (by kernel_rfl) (by decide) (fun K hK => ?_)
        refine step_append_cells (w0 := w3.drewN 1) (w.heap.size + 1) (by rfl) (.tmp 65) (.tmp 89) 75 79 (.agg #[.int .i64 0, .int .i64 0, .int .i64 0]) 3 24 rfl Try.underlying75 info_side rfl (by decide) (by decide) u4 j (nums .i64 (sdF lv ms bd j)) [.int .i64 0, .int .i64 m, .int .i64 s] rfl rfl rfl (by simp [Value.oneCell']) (HF2.out.to bD).out (Below.refl _ _) (by have h1 := HB2.out.size; have h2 := bD.size; have h3 := HSZ0.out; clear e1 eA eB eC eD; omega) (by clear e1 eA eB eC eD; omega) ?_
        intro v1 wd od hBd hgd had
        have HF3 := hid (show FO wd (w.heap.size + 1) 79 3 v1 (j + 1) (sdF lv ms bd (j + 1)) from ⟨by rw [HSN.out, nums_append]; exact od⟩)
        have HB3 := hid (show Bw _ wd from ⟨(HB2.out.trans bD).out.grown hgd (HB2.out.trans bD).size (fun q hq => by have h1 := own_base HF2.out.out q hq; have h3 := HSZ0.out; clear e1 eA eB eC eD; omega)⟩)
        refine hK.out _ _ ?_
        clear hK K; refine norm_ (a' := ?_) ?_ ?_; rotate_left; (show Act.put _ (some 90) _ = _; simp only [Act.put, s1_, s2_, s3_, i64_w, i32_w]; rfl)
        refine last_ (i := 26) (N := (some 4)) #[true, true, true, true, true, true, true, true, true, true, true, true, true, true, true, true, true, true, true, true, true, true, true, true, true, true, true] rfl rfl (by kernel_rfl) (by decide) (fun K hK => ?_)
        refine value_ (w1 := ?_) (v := ?_) (by rfl) rfl ?_ ?_
        rotate_left 2
        ·go_simp
         constructor
         ·rfl
         ·rfl
        refine hK.out _ _ ?_
        clear hK K; refine norm_ (a' := ?_) ?_ ?_; rotate_left; (show Act.put _ (some 4) _ = _; simp only [Act.put, s1_, s2_, s3_, i64_w, i32_w]; rfl)
        refine done_ (by kernel_rfl) ?_
        clear bA bDA hgd had od hBd bD eA eB eC eD
        go_wp2
        go_roundw
        case rel => exact ⟨j + 1, hkk.out.1, by go_num, HF3, HB3, HU3⟩
        case measure => simp [intOf]; clear e1; omega
       ·have hmr' := hmr
        obtain ⟨mp, hmp⟩ : ∃ mp, m * 2 = mp := ⟨_, rfl⟩
        have hmpb : 0 ≤ mp ∧ mp ≤ 160000000 := by clear e1; omega
        obtain ⟨s, hs⟩ : ∃ s, b + mp = s := ⟨_, rfl⟩
        have HSN := hid (show sdF lv ms bd (j + 1) = sdF lv ms bd j ++ [1, m, s] by rw [HSN0.out, show pow2 1 = 2 from rfl, hmp, hs])
        have eA : wrap64 (m * 2) = mp := by rw [hmp]; exact w64 (by clear e1 hmp hs; omega) (by clear e1 hmp hs; omega)
        have eB : IntKind.i64.wrap (m * 2) = mp := by rw [hmp]; exact i64w (by clear e1 eA hmp hs; omega) (by clear e1 eA hmp hs; omega)
        have eC : wrap64 (b + mp) = s := by rw [hs]; exact w64 (by clear e1 eA eB; omega) (by clear e1 eA eB; omega)
        have eD : IntKind.i64.wrap (b + mp) = s := by rw [hs]; exact i64w (by clear e1 eA eB eC; omega) (by clear e1 eA eB eC; omega)
        clear hmp hs hmr'
        refine start_ (n := 27) (S := fun w' => w'.cell? ⟨wr.heap.size, 0, none⟩ = some (.int .i64 (k : Int)) ∧ w'.cell? ⟨wr.heap.size, 1, none⟩ = some (.int .i64 1) ∧ w'.cell? ⟨w.heap.size, 3, none⟩ = some (.slice (some am) nm cm) ∧ w'.cell? ⟨w.heap.size, 5, none⟩ = some (.slice (some ab) nb cb) ∧ w'.cell? (am.add j) = some (.int .i64 m) ∧ w'.cell? (ab.add k) = some (.int .i64 b)) (ds := [25, 26]) #[false, false, false, false, false, false, false, false, false, false, false, false, false, false, false, false, false, false, false, false, false, false, false, false, false, false, false] (by kernel_rfl) rfl rfl ⟨y0, y1, g3, g5, xm, xb⟩ (fun hHeld => ?_)
        have bD := Bw.drawn (a := w3) ⟨⟨1, rfl⟩⟩
        refine pq_ (i := 0) (N := (some 65)) (v := ?_) (a' := ?_) rfl rfl (by kernel_rfl) (fun _ _ _ h => h) (Or.inl ⟨by rfl, ?_⟩) ?_ ?_
        rotate_left; (intro w'; go_simp; with_reducible rfl); rotate_left; (simp only [Act.put, s1_, s2_, s3_, i64_w, i32_w]; rfl)
        refine pq_ (i := 1) (N := (some 66)) (v := ?_) (a' := ?_) rfl rfl (by kernel_rfl) (fun _ _ _ h => h) (Or.inl ⟨by rfl, ?_⟩) ?_ ?_
        rotate_left; (intro w'; go_simp; with_reducible rfl); rotate_left; (simp only [Act.put, s1_, s2_, s3_, i64_w, i32_w]; rfl)
        refine tq_ (i := 2) (N := (some 67)) (v := ?_) (a' := ?_) rfl rfl (by kernel_rfl) (fun _ _ _ h => h) (Or.inl ⟨by rfl, ?_⟩) hHeld ?_ ?_
        rotate_left; (rintro w' ⟨s0, s1, s2, s3, s4, s5⟩; go_simp; with_reducible rfl); rotate_left; (simp only [Act.put, s1_, s2_, s3_, i64_w, i32_w]; rfl)
        refine pq_ (i := 3) (N := (some 68)) (v := ?_) (a' := ?_) rfl rfl (by kernel_rfl) (fun _ _ _ h => h) (Or.inl ⟨by rfl, ?_⟩) ?_ ?_
        rotate_left; (intro w'; go_simp; with_reducible rfl); rotate_left; (simp only [Act.put, s1_, s2_, s3_, i64_w, i32_w]; rfl)
        refine tq_ (i := 4) (N := (some 69)) (v := ?_) (a' := ?_) rfl rfl (by kernel_rfl) (fun _ _ _ h => h) (Or.inl ⟨by rfl, ?_⟩) hHeld ?_ ?_
        rotate_left; (rintro w' ⟨s0, s1, s2, s3, s4, s5⟩; go_simp; with_reducible rfl); rotate_left; (simp only [Act.put, s1_, s2_, s3_, i64_w, i32_w]; rfl)
        refine pq_ (i := 5) (N := (some 70)) (v := ?_) (a' := ?_) rfl rfl (by kernel_rfl) (fun _ _ _ h => h) (Or.inl ⟨by rfl, ?_⟩) ?_ ?_
        rotate_left; (intro w'; go_simp; with_reducible rfl); rotate_left; (simp only [Act.put, s1_, s2_, s3_, i64_w, i32_w]; rfl)
        refine pq_ (i := 6) (N := (some 71)) (v := ?_) (a' := ?_) rfl rfl (by kernel_rfl) (fun _ _ _ h => h) (Or.inl ⟨by rfl, ?_⟩) ?_ ?_
        rotate_left; (intro w'; go_simp; with_reducible rfl); rotate_left; (simp only [Act.put, s1_, s2_, s3_, i64_w, i32_w]; rfl)
        refine tq_ (i := 7) (N := (some 72)) (v := ?_) (a' := ?_) rfl rfl (by kernel_rfl) (fun _ _ _ h => h) (Or.inl ⟨by rfl, ?_⟩) hHeld ?_ ?_
        rotate_left; (rintro w' ⟨s0, s1, s2, s3, s4, s5⟩; go_simp; with_reducible rfl); rotate_left; (simp only [Act.put, s1_, s2_, s3_, i64_w, i32_w]; rfl)
        refine pq_ (i := 8) (N := (some 73)) (v := ?_) (a' := ?_) rfl rfl (by kernel_rfl) (fun _ _ _ h => h) (Or.inl ⟨by rfl, ?_⟩) ?_ ?_
        rotate_left; (intro w'; go_simp; with_reducible rfl); rotate_left; (simp only [Act.put, s1_, s2_, s3_, i64_w, i32_w]; rfl)
        refine tq_ (i := 9) (N := (some 74)) (v := ?_) (a' := ?_) rfl rfl (by kernel_rfl) (fun _ _ _ h => h) (Or.inl ⟨by rfl, ?_⟩) hHeld ?_ ?_
        rotate_left; (rintro w' ⟨s0, s1, s2, s3, s4, s5⟩; go_simp; with_reducible rfl); rotate_left; (simp only [Act.put, s1_, s2_, s3_, i64_w, i32_w]; rfl)
        refine pq_ (i := 10) (N := (some 75)) (v := ?_) (a' := ?_) rfl rfl (by kernel_rfl) (fun _ _ _ h => h) (Or.inl ⟨by rfl, ?_⟩) ?_ ?_
        rotate_left; (intro w'; go_simp; with_reducible rfl); rotate_left; (simp only [Act.put, s1_, s2_, s3_, i64_w, i32_w]; rfl)
        refine tq_ (i := 11) (N := (some 76)) (v := ?_) (a' := ?_) rfl rfl (by kernel_rfl) (fun _ _ _ h => h) (Or.inl ⟨by rfl, ?_⟩) hHeld ?_ ?_
        rotate_left; (rintro w' ⟨s0, s1, s2, s3, s4, s5⟩; go_simp; with_reducible rfl); rotate_left; (simp only [Act.put, s1_, s2_, s3_, i64_w, i32_w]; rfl)
        refine pq_ (i := 12) (N := (some 77)) (v := ?_) (a' := ?_) rfl rfl (by kernel_rfl) (fun _ _ _ h => h) (Or.inl ⟨by rfl, ?_⟩) ?_ ?_
        rotate_left; (intro w'; go_simp; with_reducible rfl); rotate_left; (simp only [Act.put, s1_, s2_, s3_, i64_w, i32_w]; rfl)
        refine tq_ (i := 13) (N := (some 78)) (v := ?_) (a' := ?_) rfl rfl (by kernel_rfl) (fun _ _ _ h => h) (Or.inl ⟨by rfl, ?_⟩) hHeld ?_ ?_
        rotate_left; (rintro w' ⟨s0, s1, s2, s3, s4, s5⟩; go_simp; with_reducible rfl); rotate_left; (simp only [Act.put, s1_, s2_, s3_, i64_w, i32_w]; rfl)
        refine pq_ (i := 14) (N := (some 79)) (v := ?_) (a' := ?_) rfl rfl (by kernel_rfl) (fun _ _ _ h => h) (Or.inl ⟨by rfl, ?_⟩) ?_ ?_
        rotate_left; (intro w'; go_simp; with_reducible rfl); rotate_left; (simp only [Act.put, s1_, s2_, s3_, i64_w, i32_w]; rfl)
        refine tq_ (i := 15) (N := (some 80)) (v := ?_) (a' := ?_) rfl rfl (by kernel_rfl) (fun _ _ _ h => h) (Or.inl ⟨by rfl, ?_⟩) hHeld ?_ ?_
        rotate_left; (rintro w' ⟨s0, s1, s2, s3, s4, s5⟩; go_simp; with_reducible rfl); rotate_left; (simp only [Act.put, s1_, s2_, s3_, i64_w, i32_w]; rfl)
        refine pq_ (i := 16) (N := (some 81)) (v := ?_) (a' := ?_) rfl rfl (by kernel_rfl) (fun _ _ _ h => h) (Or.inl ⟨by rfl, ?_⟩) ?_ ?_
        rotate_left; (intro w'; go_simp; with_reducible rfl); rotate_left; (simp only [Act.put, s1_, s2_, s3_, i64_w, i32_w]; rfl)
        refine pq_ (i := 17) (N := (some 82)) (v := ?_) (a' := ?_) rfl rfl (by kernel_rfl) (fun _ _ _ h => h) (Or.inl ⟨by rfl, ?_⟩) ?_ ?_
        rotate_left; (intro w'; go_simp; with_reducible rfl); rotate_left; (simp only [Act.put, s1_, s2_, s3_, i64_w, i32_w]; rfl)
        refine tq_ (i := 18) (N := (some 83)) (v := ?_) (a' := ?_) rfl rfl (by kernel_rfl) (fun _ _ _ h => h) (Or.inl ⟨by rfl, ?_⟩) hHeld ?_ ?_
        rotate_left; (rintro w' ⟨s0, s1, s2, s3, s4, s5⟩; go_simp; with_reducible rfl); rotate_left; (simp only [Act.put, s1_, s2_, s3_, i64_w, i32_w]; rfl)
        refine pq_ (i := 19) (N := (some 84)) (v := ?_) (a' := ?_) rfl rfl (by kernel_rfl) (fun _ _ _ h => h) (Or.inl ⟨by rfl, ?_⟩) ?_ ?_
        rotate_left; (intro w'; go_simp; with_reducible rfl); rotate_left; (simp only [Act.put, s1_, s2_, s3_, i64_w, i32_w]; rfl)
        refine tq_ (i := 20) (N := (some 85)) (v := ?_) (a' := ?_) rfl rfl (by kernel_rfl) (fun _ _ _ h => h) (Or.inl ⟨by rfl, ?_⟩) hHeld ?_ ?_
        rotate_left; (rintro w' ⟨s0, s1, s2, s3, s4, s5⟩; go_simp; with_reducible rfl); rotate_left; (simp only [Act.put, s1_, s2_, s3_, i64_w, i32_w]; rfl)
        refine pq_ (i := 21) (N := (some 86)) (v := ?_) (a' := ?_) rfl rfl (by kernel_rfl) (fun _ _ _ h => h) (Or.inl ⟨by rfl, ?_⟩) ?_ ?_
        rotate_left; (intro w'; go_simp; with_reducible rfl); rotate_left; (simp only [Act.put, s1_, s2_, s3_, i64_w, i32_w]; rfl)
        refine pq_ (i := 22) (N := (some 87)) (v := ?_) (a' := ?_) rfl rfl (by kernel_rfl) (fun _ _ _ h => h) (Or.inl ⟨by rfl, ?_⟩) ?_ ?_
        rotate_left; (intro w'; go_simp; with_reducible rfl); rotate_left; (simp only [Act.put, s1_, s2_, s3_, i64_w, i32_w]; rfl)
        refine pq_ (i := 23) (N := (some 88)) (v := ?_) (a' := ?_) rfl rfl (by kernel_rfl) (fun _ _ _ h => h) (Or.inl ⟨by rfl, ?_⟩) ?_ ?_
        rotate_left; (intro w'; go_simp; with_reducible rfl); rotate_left; (simp only [Act.put, s1_, s2_, s3_, i64_w, i32_w]; rfl)
        clear hHeld
        have bA := Bw.box1 (w3.drewN 1) (.cells #[.int .i64 1, .int .i64 m, .int .i64 s] 79)
        have bDA := bD.trans bA
        refine one_ (i := 24) (N := (some 89)) #[true, true, true, true, true, true, true, true, true, true, true, true, true, true, true, true, true, true, true, true, true, true, true, true, true, false, false] rfl rfl (by kernel_rfl) (by decide) (fun K hK => ?_)
        refine value_ (w1 := ?_) (v := ?_) (by rfl) rfl ?_ ?_
        rotate_left 2
        ·go_simp
         constructor
         ·rfl
         ·rfl
        refine hK.out _ _ ⟨pw_cell_below bDA.out y0, pw_cell_below bDA.out y1, pw_cell_below bDA.out g3, pw_cell_below bDA.out g5, pw_cell_below bDA.out xm, pw_cell_below bDA.out xb⟩ (fun hHeld => ?_)
        clear hK K; refine norm_ (a' := ?_) ?_ ?_; rotate_left; (show Act.put _ (some 89) _ = _; simp only [Act.put, s1_, s2_, s3_, i64_w, i32_w]; rfl)
        refine last_ (i := 25) (N := (some 90)) #[true, true, true, true, true, true, true, true, true, true, true, true, true, true, true, true, true, true, true, true, true, true, true, true, true, true, false] rfl rfl (by kernel_rfl) (by decide) (fun K hK => ?_)
        refine step_append_cells (w0 := w3.drewN 1) (w.heap.size + 1) (by rfl) (.tmp 65) (.tmp 89) 75 79 (.agg #[.int .i64 0, .int .i64 0, .int .i64 0]) 3 24 rfl Try.underlying75 info_side rfl (by decide) (by decide) u4 j (nums .i64 (sdF lv ms bd j)) [.int .i64 1, .int .i64 m, .int .i64 s] rfl rfl rfl (by simp [Value.oneCell']) (HF2.out.to bD).out (Below.refl _ _) (by have h1 := HB2.out.size; have h2 := bD.size; have h3 := HSZ0.out; clear e1 eA eB eC eD; omega) (by clear e1 eA eB eC eD; omega) ?_
        intro v1 wd od hBd hgd had
        have HF3 := hid (show FO wd (w.heap.size + 1) 79 3 v1 (j + 1) (sdF lv ms bd (j + 1)) from ⟨by rw [HSN.out, nums_append]; exact od⟩)
        have HB3 := hid (show Bw _ wd from ⟨(HB2.out.trans bD).out.grown hgd (HB2.out.trans bD).size (fun q hq => by have h1 := own_base HF2.out.out q hq; have h3 := HSZ0.out; clear e1 eA eB eC eD; omega)⟩)
        refine hK.out _ _ ?_
        clear hK K; refine norm_ (a' := ?_) ?_ ?_; rotate_left; (show Act.put _ (some 90) _ = _; simp only [Act.put, s1_, s2_, s3_, i64_w, i32_w]; rfl)
        refine last_ (i := 26) (N := (some 4)) #[true, true, true, true, true, true, true, true, true, true, true, true, true, true, true, true, true, true, true, true, true, true, true, true, true, true, true] rfl rfl (by kernel_rfl) (by decide) (fun K hK => ?_)
        refine value_ (w1 := ?_) (v := ?_) (by rfl) rfl ?_ ?_
        rotate_left 2
        ·go_simp
         constructor
         ·rfl
         ·rfl
        refine hK.out _ _ ?_
        clear hK K; refine norm_ (a' := ?_) ?_ ?_; rotate_left; (show Act.put _ (some 4) _ = _; simp only [Act.put, s1_, s2_, s3_, i64_w, i32_w]; rfl)
        refine done_ (by kernel_rfl) ?_
        clear bA bDA hgd had od hBd bD eA eB eC eD
        go_wp2
        go_roundw
        case rel => exact ⟨j + 1, hkk.out.1, by go_num, HF3, HB3, HU3⟩
        case measure => simp [intOf]; clear e1; omega
       ·have hmr' := hmr
        obtain ⟨mp, hmp⟩ : ∃ mp, m * 4 = mp := ⟨_, rfl⟩
        have hmpb : 0 ≤ mp ∧ mp ≤ 160000000 := by clear e1; omega
        obtain ⟨s, hs⟩ : ∃ s, b + mp = s := ⟨_, rfl⟩
        have HSN := hid (show sdF lv ms bd (j + 1) = sdF lv ms bd j ++ [2, m, s] by rw [HSN0.out, show pow2 2 = 4 from rfl, hmp, hs])
        have eA : wrap64 (m * 4) = mp := by rw [hmp]; exact w64 (by clear e1 hmp hs; omega) (by clear e1 hmp hs; omega)
        have eB : IntKind.i64.wrap (m * 4) = mp := by rw [hmp]; exact i64w (by clear e1 eA hmp hs; omega) (by clear e1 eA hmp hs; omega)
        have eC : wrap64 (b + mp) = s := by rw [hs]; exact w64 (by clear e1 eA eB; omega) (by clear e1 eA eB; omega)
        have eD : IntKind.i64.wrap (b + mp) = s := by rw [hs]; exact i64w (by clear e1 eA eB eC; omega) (by clear e1 eA eB eC; omega)
        clear hmp hs hmr'
        refine start_ (n := 27) (S := fun w' => w'.cell? ⟨wr.heap.size, 0, none⟩ = some (.int .i64 (k : Int)) ∧ w'.cell? ⟨wr.heap.size, 1, none⟩ = some (.int .i64 2) ∧ w'.cell? ⟨w.heap.size, 3, none⟩ = some (.slice (some am) nm cm) ∧ w'.cell? ⟨w.heap.size, 5, none⟩ = some (.slice (some ab) nb cb) ∧ w'.cell? (am.add j) = some (.int .i64 m) ∧ w'.cell? (ab.add k) = some (.int .i64 b)) (ds := [25, 26]) #[false, false, false, false, false, false, false, false, false, false, false, false, false, false, false, false, false, false, false, false, false, false, false, false, false, false, false] (by kernel_rfl) rfl rfl ⟨y0, y1, g3, g5, xm, xb⟩ (fun hHeld => ?_)
        have bD := Bw.drawn (a := w3) ⟨⟨1, rfl⟩⟩
        refine pq_ (i := 0) (N := (some 65)) (v := ?_) (a' := ?_) rfl rfl (by kernel_rfl) (fun _ _ _ h => h) (Or.inl ⟨by rfl, ?_⟩) ?_ ?_
        rotate_left; (intro w'; go_simp; with_reducible rfl); rotate_left; (simp only [Act.put, s1_, s2_, s3_, i64_w, i32_w]; rfl)
        refine pq_ (i := 1) (N := (some 66)) (v := ?_) (a' := ?_) rfl rfl (by kernel_rfl) (fun _ _ _ h => h) (Or.inl ⟨by rfl, ?_⟩) ?_ ?_
        rotate_left; (intro w'; go_simp; with_reducible rfl); rotate_left; (simp only [Act.put, s1_, s2_, s3_, i64_w, i32_w]; rfl)
        refine tq_ (i := 2) (N := (some 67)) (v := ?_) (a' := ?_) rfl rfl (by kernel_rfl) (fun _ _ _ h => h) (Or.inl ⟨by rfl, ?_⟩) hHeld ?_ ?_
        rotate_left; (rintro w' ⟨s0, s1, s2, s3, s4, s5⟩; go_simp; with_reducible rfl); rotate_left; (simp only [Act.put, s1_, s2_, s3_, i64_w, i32_w]; rfl)
        refine pq_ (i := 3) (N := (some 68)) (v := ?_) (a' := ?_) rfl rfl (by kernel_rfl) (fun _ _ _ h => h) (Or.inl ⟨by rfl, ?_⟩) ?_ ?_
        rotate_left; (intro w'; go_simp; with_reducible rfl); rotate_left; (simp only [Act.put, s1_, s2_, s3_, i64_w, i32_w]; rfl)
        refine tq_ (i := 4) (N := (some 69)) (v := ?_) (a' := ?_) rfl rfl (by kernel_rfl) (fun _ _ _ h => h) (Or.inl ⟨by rfl, ?_⟩) hHeld ?_ ?_
        rotate_left; (rintro w' ⟨s0, s1, s2, s3, s4, s5⟩; go_simp; with_reducible rfl); rotate_left; (simp only [Act.put, s1_, s2_, s3_, i64_w, i32_w]; rfl)
        refine pq_ (i := 5) (N := (some 70)) (v := ?_) (a' := ?_) rfl rfl (by kernel_rfl) (fun _ _ _ h => h) (Or.inl ⟨by rfl, ?_⟩) ?_ ?_
        rotate_left; (intro w'; go_simp; with_reducible rfl); rotate_left; (simp only [Act.put, s1_, s2_, s3_, i64_w, i32_w]; rfl)
        refine pq_ (i := 6) (N := (some 71)) (v := ?_) (a' := ?_) rfl rfl (by kernel_rfl) (fun _ _ _ h => h) (Or.inl ⟨by rfl, ?_⟩) ?_ ?_
        rotate_left; (intro w'; go_simp; with_reducible rfl); rotate_left; (simp only [Act.put, s1_, s2_, s3_, i64_w, i32_w]; rfl)
        refine tq_ (i := 7) (N := (some 72)) (v := ?_) (a' := ?_) rfl rfl (by kernel_rfl) (fun _ _ _ h => h) (Or.inl ⟨by rfl, ?_⟩) hHeld ?_ ?_
        rotate_left; (rintro w' ⟨s0, s1, s2, s3, s4, s5⟩; go_simp; with_reducible rfl); rotate_left; (simp only [Act.put, s1_, s2_, s3_, i64_w, i32_w]; rfl)
        refine pq_ (i := 8) (N := (some 73)) (v := ?_) (a' := ?_) rfl rfl (by kernel_rfl) (fun _ _ _ h => h) (Or.inl ⟨by rfl, ?_⟩) ?_ ?_
        rotate_left; (intro w'; go_simp; with_reducible rfl); rotate_left; (simp only [Act.put, s1_, s2_, s3_, i64_w, i32_w]; rfl)
        refine tq_ (i := 9) (N := (some 74)) (v := ?_) (a' := ?_) rfl rfl (by kernel_rfl) (fun _ _ _ h => h) (Or.inl ⟨by rfl, ?_⟩) hHeld ?_ ?_
        rotate_left; (rintro w' ⟨s0, s1, s2, s3, s4, s5⟩; go_simp; with_reducible rfl); rotate_left; (simp only [Act.put, s1_, s2_, s3_, i64_w, i32_w]; rfl)
        refine pq_ (i := 10) (N := (some 75)) (v := ?_) (a' := ?_) rfl rfl (by kernel_rfl) (fun _ _ _ h => h) (Or.inl ⟨by rfl, ?_⟩) ?_ ?_
        rotate_left; (intro w'; go_simp; with_reducible rfl); rotate_left; (simp only [Act.put, s1_, s2_, s3_, i64_w, i32_w]; rfl)
        refine tq_ (i := 11) (N := (some 76)) (v := ?_) (a' := ?_) rfl rfl (by kernel_rfl) (fun _ _ _ h => h) (Or.inl ⟨by rfl, ?_⟩) hHeld ?_ ?_
        rotate_left; (rintro w' ⟨s0, s1, s2, s3, s4, s5⟩; go_simp; with_reducible rfl); rotate_left; (simp only [Act.put, s1_, s2_, s3_, i64_w, i32_w]; rfl)
        refine pq_ (i := 12) (N := (some 77)) (v := ?_) (a' := ?_) rfl rfl (by kernel_rfl) (fun _ _ _ h => h) (Or.inl ⟨by rfl, ?_⟩) ?_ ?_
        rotate_left; (intro w'; go_simp; with_reducible rfl); rotate_left; (simp only [Act.put, s1_, s2_, s3_, i64_w, i32_w]; rfl)
        refine tq_ (i := 13) (N := (some 78)) (v := ?_) (a' := ?_) rfl rfl (by kernel_rfl) (fun _ _ _ h => h) (Or.inl ⟨by rfl, ?_⟩) hHeld ?_ ?_
        rotate_left; (rintro w' ⟨s0, s1, s2, s3, s4, s5⟩; go_simp; with_reducible rfl); rotate_left; (simp only [Act.put, s1_, s2_, s3_, i64_w, i32_w]; rfl)
        refine pq_ (i := 14) (N := (some 79)) (v := ?_) (a' := ?_) rfl rfl (by kernel_rfl) (fun _ _ _ h => h) (Or.inl ⟨by rfl, ?_⟩) ?_ ?_
        rotate_left; (intro w'; go_simp; with_reducible rfl); rotate_left; (simp only [Act.put, s1_, s2_, s3_, i64_w, i32_w]; rfl)
        refine tq_ (i := 15) (N := (some 80)) (v := ?_) (a' := ?_) rfl rfl (by kernel_rfl) (fun _ _ _ h => h) (Or.inl ⟨by rfl, ?_⟩) hHeld ?_ ?_
        rotate_left; (rintro w' ⟨s0, s1, s2, s3, s4, s5⟩; go_simp; with_reducible rfl); rotate_left; (simp only [Act.put, s1_, s2_, s3_, i64_w, i32_w]; rfl)
        refine pq_ (i := 16) (N := (some 81)) (v := ?_) (a' := ?_) rfl rfl (by kernel_rfl) (fun _ _ _ h => h) (Or.inl ⟨by rfl, ?_⟩) ?_ ?_
        rotate_left; (intro w'; go_simp; with_reducible rfl); rotate_left; (simp only [Act.put, s1_, s2_, s3_, i64_w, i32_w]; rfl)
        refine pq_ (i := 17) (N := (some 82)) (v := ?_) (a' := ?_) rfl rfl (by kernel_rfl) (fun _ _ _ h => h) (Or.inl ⟨by rfl, ?_⟩) ?_ ?_
        rotate_left; (intro w'; go_simp; with_reducible rfl); rotate_left; (simp only [Act.put, s1_, s2_, s3_, i64_w, i32_w]; rfl)
        refine tq_ (i := 18) (N := (some 83)) (v := ?_) (a' := ?_) rfl rfl (by kernel_rfl) (fun _ _ _ h => h) (Or.inl ⟨by rfl, ?_⟩) hHeld ?_ ?_
        rotate_left; (rintro w' ⟨s0, s1, s2, s3, s4, s5⟩; go_simp; with_reducible rfl); rotate_left; (simp only [Act.put, s1_, s2_, s3_, i64_w, i32_w]; rfl)
        refine pq_ (i := 19) (N := (some 84)) (v := ?_) (a' := ?_) rfl rfl (by kernel_rfl) (fun _ _ _ h => h) (Or.inl ⟨by rfl, ?_⟩) ?_ ?_
        rotate_left; (intro w'; go_simp; with_reducible rfl); rotate_left; (simp only [Act.put, s1_, s2_, s3_, i64_w, i32_w]; rfl)
        refine tq_ (i := 20) (N := (some 85)) (v := ?_) (a' := ?_) rfl rfl (by kernel_rfl) (fun _ _ _ h => h) (Or.inl ⟨by rfl, ?_⟩) hHeld ?_ ?_
        rotate_left; (rintro w' ⟨s0, s1, s2, s3, s4, s5⟩; go_simp; with_reducible rfl); rotate_left; (simp only [Act.put, s1_, s2_, s3_, i64_w, i32_w]; rfl)
        refine pq_ (i := 21) (N := (some 86)) (v := ?_) (a' := ?_) rfl rfl (by kernel_rfl) (fun _ _ _ h => h) (Or.inl ⟨by rfl, ?_⟩) ?_ ?_
        rotate_left; (intro w'; go_simp; with_reducible rfl); rotate_left; (simp only [Act.put, s1_, s2_, s3_, i64_w, i32_w]; rfl)
        refine pq_ (i := 22) (N := (some 87)) (v := ?_) (a' := ?_) rfl rfl (by kernel_rfl) (fun _ _ _ h => h) (Or.inl ⟨by rfl, ?_⟩) ?_ ?_
        rotate_left; (intro w'; go_simp; with_reducible rfl); rotate_left; (simp only [Act.put, s1_, s2_, s3_, i64_w, i32_w]; rfl)
        refine pq_ (i := 23) (N := (some 88)) (v := ?_) (a' := ?_) rfl rfl (by kernel_rfl) (fun _ _ _ h => h) (Or.inl ⟨by rfl, ?_⟩) ?_ ?_
        rotate_left; (intro w'; go_simp; with_reducible rfl); rotate_left; (simp only [Act.put, s1_, s2_, s3_, i64_w, i32_w]; rfl)
        clear hHeld
        have bA := Bw.box1 (w3.drewN 1) (.cells #[.int .i64 2, .int .i64 m, .int .i64 s] 79)
        have bDA := bD.trans bA
        refine one_ (i := 24) (N := (some 89)) #[true, true, true, true, true, true, true, true, true, true, true, true, true, true, true, true, true, true, true, true, true, true, true, true, true, false, false] rfl rfl (by kernel_rfl) (by decide) (fun K hK => ?_)
        refine value_ (w1 := ?_) (v := ?_) (by rfl) rfl ?_ ?_
        rotate_left 2
        ·go_simp
         constructor
         ·rfl
         ·rfl
        refine hK.out _ _ ⟨pw_cell_below bDA.out y0, pw_cell_below bDA.out y1, pw_cell_below bDA.out g3, pw_cell_below bDA.out g5, pw_cell_below bDA.out xm, pw_cell_below bDA.out xb⟩ (fun hHeld => ?_)
        clear hK K; refine norm_ (a' := ?_) ?_ ?_; rotate_left; (show Act.put _ (some 89) _ = _; simp only [Act.put, s1_, s2_, s3_, i64_w, i32_w]; rfl)
        refine last_ (i := 25) (N := (some 90)) #[true, true, true, true, true, true, true, true, true, true, true, true, true, true, true, true, true, true, true, true, true, true, true, true, true, true, false] rfl rfl (by kernel_rfl) (by decide) (fun K hK => ?_)
        refine step_append_cells (w0 := w3.drewN 1) (w.heap.size + 1) (by rfl) (.tmp 65) (.tmp 89) 75 79 (.agg #[.int .i64 0, .int .i64 0, .int .i64 0]) 3 24 rfl Try.underlying75 info_side rfl (by decide) (by decide) u4 j (nums .i64 (sdF lv ms bd j)) [.int .i64 2, .int .i64 m, .int .i64 s] rfl rfl rfl (by simp [Value.oneCell']) (HF2.out.to bD).out (Below.refl _ _) (by have h1 := HB2.out.size; have h2 := bD.size; have h3 := HSZ0.out; clear e1 eA eB eC eD; omega) (by clear e1 eA eB eC eD; omega) ?_
        intro v1 wd od hBd hgd had
        have HF3 := hid (show FO wd (w.heap.size + 1) 79 3 v1 (j + 1) (sdF lv ms bd (j + 1)) from ⟨by rw [HSN.out, nums_append]; exact od⟩)
        have HB3 := hid (show Bw _ wd from ⟨(HB2.out.trans bD).out.grown hgd (HB2.out.trans bD).size (fun q hq => by have h1 := own_base HF2.out.out q hq; have h3 := HSZ0.out; clear e1 eA eB eC eD; omega)⟩)
        refine hK.out _ _ ?_
        clear hK K; refine norm_ (a' := ?_) ?_ ?_; rotate_left; (show Act.put _ (some 90) _ = _; simp only [Act.put, s1_, s2_, s3_, i64_w, i32_w]; rfl)
        refine last_ (i := 26) (N := (some 4)) #[true, true, true, true, true, true, true, true, true, true, true, true, true, true, true, true, true, true, true, true, true, true, true, true, true, true, true] rfl rfl (by kernel_rfl) (by decide) (fun K hK => ?_)
        refine value_ (w1 := ?_) (v := ?_) (by rfl) rfl ?_ ?_
        rotate_left 2
        ·go_simp
         constructor
         ·rfl
         ·rfl
        refine hK.out _ _ ?_
        clear hK K; refine norm_ (a' := ?_) ?_ ?_; rotate_left; (show Act.put _ (some 4) _ = _; simp only [Act.put, s1_, s2_, s3_, i64_w, i32_w]; rfl)
        refine done_ (by kernel_rfl) ?_
        clear bA bDA hgd had od hBd bD eA eB eC eD
        go_wp2
        go_roundw
        case rel => exact ⟨j + 1, hkk.out.1, by go_num, HF3, HB3, HU3⟩
        case measure => simp [intOf]; clear e1; omega
       ·have hmr' := hmr
        obtain ⟨mp, hmp⟩ : ∃ mp, m * 8 = mp := ⟨_, rfl⟩
        have hmpb : 0 ≤ mp ∧ mp ≤ 160000000 := by clear e1; omega
        obtain ⟨s, hs⟩ : ∃ s, b + mp = s := ⟨_, rfl⟩
        have HSN := hid (show sdF lv ms bd (j + 1) = sdF lv ms bd j ++ [3, m, s] by rw [HSN0.out, show pow2 3 = 8 from rfl, hmp, hs])
        have eA : wrap64 (m * 8) = mp := by rw [hmp]; exact w64 (by clear e1 hmp hs; omega) (by clear e1 hmp hs; omega)
        have eB : IntKind.i64.wrap (m * 8) = mp := by rw [hmp]; exact i64w (by clear e1 eA hmp hs; omega) (by clear e1 eA hmp hs; omega)
        have eC : wrap64 (b + mp) = s := by rw [hs]; exact w64 (by clear e1 eA eB; omega) (by clear e1 eA eB; omega)
        have eD : IntKind.i64.wrap (b + mp) = s := by rw [hs]; exact i64w (by clear e1 eA eB eC; omega) (by clear e1 eA eB eC; omega)
        clear hmp hs hmr'
        refine start_ (n := 27) (S := fun w' => w'.cell? ⟨wr.heap.size, 0, none⟩ = some (.int .i64 (k : Int)) ∧ w'.cell? ⟨wr.heap.size, 1, none⟩ = some (.int .i64 3) ∧ w'.cell? ⟨w.heap.size, 3, none⟩ = some (.slice (some am) nm cm) ∧ w'.cell? ⟨w.heap.size, 5, none⟩ = some (.slice (some ab) nb cb) ∧ w'.cell? (am.add j) = some (.int .i64 m) ∧ w'.cell? (ab.add k) = some (.int .i64 b)) (ds := [25, 26]) #[false, false, false, false, false, false, false, false, false, false, false, false, false, false, false, false, false, false, false, false, false, false, false, false, false, false, false] (by kernel_rfl) rfl rfl ⟨y0, y1, g3, g5, xm, xb⟩ (fun hHeld => ?_)
        have bD := Bw.drawn (a := w3) ⟨⟨1, rfl⟩⟩
        refine pq_ (i := 0) (N := (some 65)) (v := ?_) (a' := ?_) rfl rfl (by kernel_rfl) (fun _ _ _ h => h) (Or.inl ⟨by rfl, ?_⟩) ?_ ?_
        rotate_left; (intro w'; go_simp; with_reducible rfl); rotate_left; (simp only [Act.put, s1_, s2_, s3_, i64_w, i32_w]; rfl)
        refine pq_ (i := 1) (N := (some 66)) (v := ?_) (a' := ?_) rfl rfl (by kernel_rfl) (fun _ _ _ h => h) (Or.inl ⟨by rfl, ?_⟩) ?_ ?_
        rotate_left; (intro w'; go_simp; with_reducible rfl); rotate_left; (simp only [Act.put, s1_, s2_, s3_, i64_w, i32_w]; rfl)
        refine tq_ (i := 2) (N := (some 67)) (v := ?_) (a' := ?_) rfl rfl (by kernel_rfl) (fun _ _ _ h => h) (Or.inl ⟨by rfl, ?_⟩) hHeld ?_ ?_
        rotate_left; (rintro w' ⟨s0, s1, s2, s3, s4, s5⟩; go_simp; with_reducible rfl); rotate_left; (simp only [Act.put, s1_, s2_, s3_, i64_w, i32_w]; rfl)
        refine pq_ (i := 3) (N := (some 68)) (v := ?_) (a' := ?_) rfl rfl (by kernel_rfl) (fun _ _ _ h => h) (Or.inl ⟨by rfl, ?_⟩) ?_ ?_
        rotate_left; (intro w'; go_simp; with_reducible rfl); rotate_left; (simp only [Act.put, s1_, s2_, s3_, i64_w, i32_w]; rfl)
        refine tq_ (i := 4) (N := (some 69)) (v := ?_) (a' := ?_) rfl rfl (by kernel_rfl) (fun _ _ _ h => h) (Or.inl ⟨by rfl, ?_⟩) hHeld ?_ ?_
        rotate_left; (rintro w' ⟨s0, s1, s2, s3, s4, s5⟩; go_simp; with_reducible rfl); rotate_left; (simp only [Act.put, s1_, s2_, s3_, i64_w, i32_w]; rfl)
        refine pq_ (i := 5) (N := (some 70)) (v := ?_) (a' := ?_) rfl rfl (by kernel_rfl) (fun _ _ _ h => h) (Or.inl ⟨by rfl, ?_⟩) ?_ ?_
        rotate_left; (intro w'; go_simp; with_reducible rfl); rotate_left; (simp only [Act.put, s1_, s2_, s3_, i64_w, i32_w]; rfl)
        refine pq_ (i := 6) (N := (some 71)) (v := ?_) (a' := ?_) rfl rfl (by kernel_rfl) (fun _ _ _ h => h) (Or.inl ⟨by rfl, ?_⟩) ?_ ?_
        rotate_left; (intro w'; go_simp; with_reducible rfl); rotate_left; (simp only [Act.put, s1_, s2_, s3_, i64_w, i32_w]; rfl)
        refine tq_ (i := 7) (N := (some 72)) (v := ?_) (a' := ?_) rfl rfl (by kernel_rfl) (fun _ _ _ h => h) (Or.inl ⟨by rfl, ?_⟩) hHeld ?_ ?_
        rotate_left; (rintro w' ⟨s0, s1, s2, s3, s4, s5⟩; go_simp; with_reducible rfl); rotate_left; (simp only [Act.put, s1_, s2_, s3_, i64_w, i32_w]; rfl)
        refine pq_ (i := 8) (N := (some 73)) (v := ?_) (a' := ?_) rfl rfl (by kernel_rfl) (fun _ _ _ h => h) (Or.inl ⟨by rfl, ?_⟩) ?_ ?_
        rotate_left; (intro w'; go_simp; with_reducible rfl); rotate_left; (simp only [Act.put, s1_, s2_, s3_, i64_w, i32_w]; rfl)
        refine tq_ (i := 9) (N := (some 74)) (v := ?_) (a' := ?_) rfl rfl (by kernel_rfl) (fun _ _ _ h => h) (Or.inl ⟨by rfl, ?_⟩) hHeld ?_ ?_
        rotate_left; (rintro w' ⟨s0, s1, s2, s3, s4, s5⟩; go_simp; with_reducible rfl); rotate_left; (simp only [Act.put, s1_, s2_, s3_, i64_w, i32_w]; rfl)
        refine pq_ (i := 10) (N := (some 75)) (v := ?_) (a' := ?_) rfl rfl (by kernel_rfl) (fun _ _ _ h => h) (Or.inl ⟨by rfl, ?_⟩) ?_ ?_
        rotate_left; (intro w'; go_simp; with_reducible rfl); rotate_left; (simp only [Act.put, s1_, s2_, s3_, i64_w, i32_w]; rfl)
        refine tq_ (i := 11) (N := (some 76)) (v := ?_) (a' := ?_) rfl rfl (by kernel_rfl) (fun _ _ _ h => h) (Or.inl ⟨by rfl, ?_⟩) hHeld ?_ ?_
        rotate_left; (rintro w' ⟨s0, s1, s2, s3, s4, s5⟩; go_simp; with_reducible rfl); rotate_left; (simp only [Act.put, s1_, s2_, s3_, i64_w, i32_w]; rfl)
        refine pq_ (i := 12) (N := (some 77)) (v := ?_) (a' := ?_) rfl rfl (by kernel_rfl) (fun _ _ _ h => h) (Or.inl ⟨by rfl, ?_⟩) ?_ ?_
        rotate_left; (intro w'; go_simp; with_reducible rfl); rotate_left; (simp only [Act.put, s1_, s2_, s3_, i64_w, i32_w]; rfl)
        refine tq_ (i := 13) (N := (some 78)) (v := ?_) (a' := ?_) rfl rfl (by kernel_rfl) (fun _ _ _ h => h) (Or.inl ⟨by rfl, ?_⟩) hHeld ?_ ?_
        rotate_left; (rintro w' ⟨s0, s1, s2, s3, s4, s5⟩; go_simp; with_reducible rfl); rotate_left; (simp only [Act.put, s1_, s2_, s3_, i64_w, i32_w]; rfl)
        refine pq_ (i := 14) (N := (some 79)) (v := ?_) (a' := ?_) rfl rfl (by kernel_rfl) (fun _ _ _ h => h) (Or.inl ⟨by rfl, ?_⟩) ?_ ?_
        rotate_left; (intro w'; go_simp; with_reducible rfl); rotate_left; (simp only [Act.put, s1_, s2_, s3_, i64_w, i32_w]; rfl)
        refine tq_ (i := 15) (N := (some 80)) (v := ?_) (a' := ?_) rfl rfl (by kernel_rfl) (fun _ _ _ h => h) (Or.inl ⟨by rfl, ?_⟩) hHeld ?_ ?_
        rotate_left; (rintro w' ⟨s0, s1, s2, s3, s4, s5⟩; go_simp; with_reducible rfl); rotate_left; (simp only [Act.put, s1_, s2_, s3_, i64_w, i32_w]; rfl)
        refine pq_ (i := 16) (N := (some 81)) (v := ?_) (a' := ?_) rfl rfl (by kernel_rfl) (fun _ _ _ h => h) (Or.inl ⟨by rfl, ?_⟩) ?_ ?_
        rotate_left; (intro w'; go_simp; with_reducible rfl); rotate_left; (simp only [Act.put, s1_, s2_, s3_, i64_w, i32_w]; rfl)
        refine pq_ (i := 17) (N := (some 82)) (v := ?_) (a' := ?_) rfl rfl (by kernel_rfl) (fun _ _ _ h => h) (Or.inl ⟨by rfl, ?_⟩) ?_ ?_
        rotate_left; (intro w'; go_simp; with_reducible rfl); rotate_left; (simp only [Act.put, s1_, s2_, s3_, i64_w, i32_w]; rfl)
        refine tq_ (i := 18) (N := (some 83)) (v := ?_) (a' := ?_) rfl rfl (by kernel_rfl) (fun _ _ _ h => h) (Or.inl ⟨by rfl, ?_⟩) hHeld ?_ ?_
        rotate_left; (rintro w' ⟨s0, s1, s2, s3, s4, s5⟩; go_simp; with_reducible rfl); rotate_left; (simp only [Act.put, s1_, s2_, s3_, i64_w, i32_w]; rfl)
        refine pq_ (i := 19) (N := (some 84)) (v := ?_) (a' := ?_) rfl rfl (by kernel_rfl) (fun _ _ _ h => h) (Or.inl ⟨by rfl, ?_⟩) ?_ ?_
        rotate_left; (intro w'; go_simp; with_reducible rfl); rotate_left; (simp only [Act.put, s1_, s2_, s3_, i64_w, i32_w]; rfl)
        refine tq_ (i := 20) (N := (some 85)) (v := ?_) (a' := ?_) rfl rfl (by kernel_rfl) (fun _ _ _ h => h) (Or.inl ⟨by rfl, ?_⟩) hHeld ?_ ?_
        rotate_left; (rintro w' ⟨s0, s1, s2, s3, s4, s5⟩; go_simp; with_reducible rfl); rotate_left; (simp only [Act.put, s1_, s2_, s3_, i64_w, i32_w]; rfl)
        refine pq_ (i := 21) (N := (some 86)) (v := ?_) (a' := ?_) rfl rfl (by kernel_rfl) (fun _ _ _ h => h) (Or.inl ⟨by rfl, ?_⟩) ?_ ?_
        rotate_left; (intro w'; go_simp; with_reducible rfl); rotate_left; (simp only [Act.put, s1_, s2_, s3_, i64_w, i32_w]; rfl)
        refine pq_ (i := 22) (N := (some 87)) (v := ?_) (a' := ?_) rfl rfl (by kernel_rfl) (fun _ _ _ h => h) (Or.inl ⟨by rfl, ?_⟩) ?_ ?_
        rotate_left; (intro w'; go_simp; with_reducible rfl); rotate_left; (simp only [Act.put, s1_, s2_, s3_, i64_w, i32_w]; rfl)
        refine pq_ (i := 23) (N := (some 88)) (v := ?_) (a' := ?_) rfl rfl (by kernel_rfl) (fun _ _ _ h => h) (Or.inl ⟨by rfl, ?_⟩) ?_ ?_
        rotate_left; (intro w'; go_simp; with_reducible rfl); rotate_left; (simp only [Act.put, s1_, s2_, s3_, i64_w, i32_w]; rfl)
        clear hHeld
        have bA := Bw.box1 (w3.drewN 1) (.cells #[.int .i64 3, .int .i64 m, .int .i64 s] 79)
        have bDA := bD.trans bA
        refine one_ (i := 24) (N := (some 89)) #[true, true, true, true, true, true, true, true, true, true, true, true, true, true, true, true, true, true, true, true, true, true, true, true, true, false, false] rfl rfl (by kernel_rfl) (by decide) (fun K hK => ?_)
        refine value_ (w1 := ?_) (v := ?_) (by rfl) rfl ?_ ?_
        rotate_left 2
        ·go_simp
         constructor
         ·rfl
         ·rfl
        refine hK.out _ _ ⟨pw_cell_below bDA.out y0, pw_cell_below bDA.out y1, pw_cell_below bDA.out g3, pw_cell_below bDA.out g5, pw_cell_below bDA.out xm, pw_cell_below bDA.out xb⟩ (fun hHeld => ?_)
        clear hK K; refine norm_ (a' := ?_) ?_ ?_; rotate_left; (show Act.put _ (some 89) _ = _; simp only [Act.put, s1_, s2_, s3_, i64_w, i32_w]; rfl)
        refine last_ (i := 25) (N := (some 90)) #[true, true, true, true, true, true, true, true, true, true, true, true, true, true, true, true, true, true, true, true, true, true, true, true, true, true, false] rfl rfl (by kernel_rfl) (by decide) (fun K hK => ?_)
        refine step_append_cells (w0 := w3.drewN 1) (w.heap.size + 1) (by rfl) (.tmp 65) (.tmp 89) 75 79 (.agg #[.int .i64 0, .int .i64 0, .int .i64 0]) 3 24 rfl Try.underlying75 info_side rfl (by decide) (by decide) u4 j (nums .i64 (sdF lv ms bd j)) [.int .i64 3, .int .i64 m, .int .i64 s] rfl rfl rfl (by simp [Value.oneCell']) (HF2.out.to bD).out (Below.refl _ _) (by have h1 := HB2.out.size; have h2 := bD.size; have h3 := HSZ0.out; clear e1 eA eB eC eD; omega) (by clear e1 eA eB eC eD; omega) ?_
        intro v1 wd od hBd hgd had
        have HF3 := hid (show FO wd (w.heap.size + 1) 79 3 v1 (j + 1) (sdF lv ms bd (j + 1)) from ⟨by rw [HSN.out, nums_append]; exact od⟩)
        have HB3 := hid (show Bw _ wd from ⟨(HB2.out.trans bD).out.grown hgd (HB2.out.trans bD).size (fun q hq => by have h1 := own_base HF2.out.out q hq; have h3 := HSZ0.out; clear e1 eA eB eC eD; omega)⟩)
        refine hK.out _ _ ?_
        clear hK K; refine norm_ (a' := ?_) ?_ ?_; rotate_left; (show Act.put _ (some 90) _ = _; simp only [Act.put, s1_, s2_, s3_, i64_w, i32_w]; rfl)
        refine last_ (i := 26) (N := (some 4)) #[true, true, true, true, true, true, true, true, true, true, true, true, true, true, true, true, true, true, true, true, true, true, true, true, true, true, true] rfl rfl (by kernel_rfl) (by decide) (fun K hK => ?_)
        refine value_ (w1 := ?_) (v := ?_) (by rfl) rfl ?_ ?_
        rotate_left 2
        ·go_simp
         constructor
         ·rfl
         ·rfl
        refine hK.out _ _ ?_
        clear hK K; refine norm_ (a' := ?_) ?_ ?_; rotate_left; (show Act.put _ (some 4) _ = _; simp only [Act.put, s1_, s2_, s3_, i64_w, i32_w]; rfl)
        refine done_ (by kernel_rfl) ?_
        clear bA bDA hgd had od hBd bD eA eB eC eD
        go_wp2
        go_roundw
        case rel => exact ⟨j + 1, hkk.out.1, by go_num, HF3, HB3, HU3⟩
        case measure => simp [intOf]; clear e1; omega
       ·have hmr' := hmr
        obtain ⟨mp, hmp⟩ : ∃ mp, m * 16 = mp := ⟨_, rfl⟩
        have hmpb : 0 ≤ mp ∧ mp ≤ 160000000 := by clear e1; omega
        obtain ⟨s, hs⟩ : ∃ s, b + mp = s := ⟨_, rfl⟩
        have HSN := hid (show sdF lv ms bd (j + 1) = sdF lv ms bd j ++ [4, m, s] by rw [HSN0.out, show pow2 4 = 16 from rfl, hmp, hs])
        have eA : wrap64 (m * 16) = mp := by rw [hmp]; exact w64 (by clear e1 hmp hs; omega) (by clear e1 hmp hs; omega)
        have eB : IntKind.i64.wrap (m * 16) = mp := by rw [hmp]; exact i64w (by clear e1 eA hmp hs; omega) (by clear e1 eA hmp hs; omega)
        have eC : wrap64 (b + mp) = s := by rw [hs]; exact w64 (by clear e1 eA eB; omega) (by clear e1 eA eB; omega)
        have eD : IntKind.i64.wrap (b + mp) = s := by rw [hs]; exact i64w (by clear e1 eA eB eC; omega) (by clear e1 eA eB eC; omega)
        clear hmp hs hmr'
        refine start_ (n := 27) (S := fun w' => w'.cell? ⟨wr.heap.size, 0, none⟩ = some (.int .i64 (k : Int)) ∧ w'.cell? ⟨wr.heap.size, 1, none⟩ = some (.int .i64 4) ∧ w'.cell? ⟨w.heap.size, 3, none⟩ = some (.slice (some am) nm cm) ∧ w'.cell? ⟨w.heap.size, 5, none⟩ = some (.slice (some ab) nb cb) ∧ w'.cell? (am.add j) = some (.int .i64 m) ∧ w'.cell? (ab.add k) = some (.int .i64 b)) (ds := [25, 26]) #[false, false, false, false, false, false, false, false, false, false, false, false, false, false, false, false, false, false, false, false, false, false, false, false, false, false, false] (by kernel_rfl) rfl rfl ⟨y0, y1, g3, g5, xm, xb⟩ (fun hHeld => ?_)
        have bD := Bw.drawn (a := w3) ⟨⟨1, rfl⟩⟩
        refine pq_ (i := 0) (N := (some 65)) (v := ?_) (a' := ?_) rfl rfl (by kernel_rfl) (fun _ _ _ h => h) (Or.inl ⟨by rfl, ?_⟩) ?_ ?_
        rotate_left; (intro w'; go_simp; with_reducible rfl); rotate_left; (simp only [Act.put, s1_, s2_, s3_, i64_w, i32_w]; rfl)
        refine pq_ (i := 1) (N := (some 66)) (v := ?_) (a' := ?_) rfl rfl (by kernel_rfl) (fun _ _ _ h => h) (Or.inl ⟨by rfl, ?_⟩) ?_ ?_
        rotate_left; (intro w'; go_simp; with_reducible rfl); rotate_left; (simp only [Act.put, s1_, s2_, s3_, i64_w, i32_w]; rfl)
        refine tq_ (i := 2) (N := (some 67)) (v := ?_) (a' := ?_) rfl rfl (by kernel_rfl) (fun _ _ _ h => h) (Or.inl ⟨by rfl, ?_⟩) hHeld ?_ ?_
        rotate_left; (rintro w' ⟨s0, s1, s2, s3, s4, s5⟩; go_simp; with_reducible rfl); rotate_left; (simp only [Act.put, s1_, s2_, s3_, i64_w, i32_w]; rfl)
        refine pq_ (i := 3) (N := (some 68)) (v := ?_) (a' := ?_) rfl rfl (by kernel_rfl) (fun _ _ _ h => h) (Or.inl ⟨by rfl, ?_⟩) ?_ ?_
        rotate_left; (intro w'; go_simp; with_reducible rfl); rotate_left; (simp only [Act.put, s1_, s2_, s3_, i64_w, i32_w]; rfl)
        refine tq_ (i := 4) (N := (some 69)) (v := ?_) (a' := ?_) rfl rfl (by kernel_rfl) (fun _ _ _ h => h) (Or.inl ⟨by rfl, ?_⟩) hHeld ?_ ?_
        rotate_left; (rintro w' ⟨s0, s1, s2, s3, s4, s5⟩; go_simp; with_reducible rfl); rotate_left; (simp only [Act.put, s1_, s2_, s3_, i64_w, i32_w]; rfl)
        refine pq_ (i := 5) (N := (some 70)) (v := ?_) (a' := ?_) rfl rfl (by kernel_rfl) (fun _ _ _ h => h) (Or.inl ⟨by rfl, ?_⟩) ?_ ?_
        rotate_left; (intro w'; go_simp; with_reducible rfl); rotate_left; (simp only [Act.put, s1_, s2_, s3_, i64_w, i32_w]; rfl)
        refine pq_ (i := 6) (N := (some 71)) (v := ?_) (a' := ?_) rfl rfl (by kernel_rfl) (fun _ _ _ h => h) (Or.inl ⟨by rfl, ?_⟩) ?_ ?_
        rotate_left; (intro w'; go_simp; with_reducible rfl); rotate_left; (simp only [Act.put, s1_, s2_, s3_, i64_w, i32_w]; rfl)
        refine tq_ (i := 7) (N := (some 72)) (v := ?_) (a' := ?_) rfl rfl (by kernel_rfl) (fun _ _ _ h => h) (Or.inl ⟨by rfl, ?_⟩) hHeld ?_ ?_
        rotate_left; (rintro w' ⟨s0, s1, s2, s3, s4, s5⟩; go_simp; with_reducible rfl); rotate_left; (simp only [Act.put, s1_, s2_, s3_, i64_w, i32_w]; rfl)
        refine pq_ (i := 8) (N := (some 73)) (v := ?_) (a' := ?_) rfl rfl (by kernel_rfl) (fun _ _ _ h => h) (Or.inl ⟨by rfl, ?_⟩) ?_ ?_
        rotate_left; (intro w'; go_simp; with_reducible rfl); rotate_left; (simp only [Act.put, s1_, s2_, s3_, i64_w, i32_w]; rfl)
        refine tq_ (i := 9) (N := (some 74)) (v := ?_) (a' := ?_) rfl rfl (by kernel_rfl) (fun _ _ _ h => h) (Or.inl ⟨by rfl, ?_⟩) hHeld ?_ ?_
        rotate_left; (rintro w' ⟨s0, s1, s2, s3, s4, s5⟩; go_simp; with_reducible rfl); rotate_left; (simp only [Act.put, s1_, s2_, s3_, i64_w, i32_w]; rfl)
        refine pq_ (i := 10) (N := (some 75)) (v := ?_) (a' := ?_) rfl rfl (by kernel_rfl) (fun _ _ _ h => h) (Or.inl ⟨by rfl, ?_⟩) ?_ ?_
        rotate_left; (intro w'; go_simp; with_reducible rfl); rotate_left; (simp only [Act.put, s1_, s2_, s3_, i64_w, i32_w]; rfl)
        refine tq_ (i := 11) (N := (some 76)) (v := ?_) (a' := ?_) rfl rfl (by kernel_rfl) (fun _ _ _ h => h) (Or.inl ⟨by rfl, ?_⟩) hHeld ?_ ?_
        rotate_left; (rintro w' ⟨s0, s1, s2, s3, s4, s5⟩; go_simp; with_reducible rfl); rotate_left; (simp only [Act.put, s1_, s2_, s3_, i64_w, i32_w]; rfl)
        refine pq_ (i := 12) (N := (some 77)) (v := ?_) (a' := ?_) rfl rfl (by kernel_rfl) (fun _ _ _ h => h) (Or.inl ⟨by rfl, ?_⟩) ?_ ?_
        rotate_left; (intro w'; go_simp; with_reducible rfl); rotate_left; (simp only [Act.put, s1_, s2_, s3_, i64_w, i32_w]; rfl)
        refine tq_ (i := 13) (N := (some 78)) (v := ?_) (a' := ?_) rfl rfl (by kernel_rfl) (fun _ _ _ h => h) (Or.inl ⟨by rfl, ?_⟩) hHeld ?_ ?_
        rotate_left; (rintro w' ⟨s0, s1, s2, s3, s4, s5⟩; go_simp; with_reducible rfl); rotate_left; (simp only [Act.put, s1_, s2_, s3_, i64_w, i32_w]; rfl)
        refine pq_ (i := 14) (N := (some 79)) (v := ?_) (a' := ?_) rfl rfl (by kernel_rfl) (fun _ _ _ h => h) (Or.inl ⟨by rfl, ?_⟩) ?_ ?_
        rotate_left; (intro w'; go_simp; with_reducible rfl); rotate_left; (simp only [Act.put, s1_, s2_, s3_, i64_w, i32_w]; rfl)
        refine tq_ (i := 15) (N := (some 80)) (v := ?_) (a' := ?_) rfl rfl (by kernel_rfl) (fun _ _ _ h => h) (Or.inl ⟨by rfl, ?_⟩) hHeld ?_ ?_
        rotate_left; (rintro w' ⟨s0, s1, s2, s3, s4, s5⟩; go_simp; with_reducible rfl); rotate_left; (simp only [Act.put, s1_, s2_, s3_, i64_w, i32_w]; rfl)
        refine pq_ (i := 16) (N := (some 81)) (v := ?_) (a' := ?_) rfl rfl (by kernel_rfl) (fun _ _ _ h => h) (Or.inl ⟨by rfl, ?_⟩) ?_ ?_
        rotate_left; (intro w'; go_simp; with_reducible rfl); rotate_left; (simp only [Act.put, s1_, s2_, s3_, i64_w, i32_w]; rfl)
        refine pq_ (i := 17) (N := (some 82)) (v := ?_) (a' := ?_) rfl rfl (by kernel_rfl) (fun _ _ _ h => h) (Or.inl ⟨by rfl, ?_⟩) ?_ ?_
        rotate_left; (intro w'; go_simp; with_reducible rfl); rotate_left; (simp only [Act.put, s1_, s2_, s3_, i64_w, i32_w]; rfl)
        refine tq_ (i := 18) (N := (some 83)) (v := ?_) (a' := ?_) rfl rfl (by kernel_rfl) (fun _ _ _ h => h) (Or.inl ⟨by rfl, ?_⟩) hHeld ?_ ?_
        rotate_left; (rintro w' ⟨s0, s1, s2, s3, s4, s5⟩; go_simp; with_reducible rfl); rotate_left; (simp only [Act.put, s1_, s2_, s3_, i64_w, i32_w]; rfl)
        refine pq_ (i := 19) (N := (some 84)) (v := ?_) (a' := ?_) rfl rfl (by kernel_rfl) (fun _ _ _ h => h) (Or.inl ⟨by rfl, ?_⟩) ?_ ?_
        rotate_left; (intro w'; go_simp; with_reducible rfl); rotate_left; (simp only [Act.put, s1_, s2_, s3_, i64_w, i32_w]; rfl)
        refine tq_ (i := 20) (N := (some 85)) (v := ?_) (a' := ?_) rfl rfl (by kernel_rfl) (fun _ _ _ h => h) (Or.inl ⟨by rfl, ?_⟩) hHeld ?_ ?_
        rotate_left; (rintro w' ⟨s0, s1, s2, s3, s4, s5⟩; go_simp; with_reducible rfl); rotate_left; (simp only [Act.put, s1_, s2_, s3_, i64_w, i32_w]; rfl)
        refine pq_ (i := 21) (N := (some 86)) (v := ?_) (a' := ?_) rfl rfl (by kernel_rfl) (fun _ _ _ h => h) (Or.inl ⟨by rfl, ?_⟩) ?_ ?_
        rotate_left; (intro w'; go_simp; with_reducible rfl); rotate_left; (simp only [Act.put, s1_, s2_, s3_, i64_w, i32_w]; rfl)
        refine pq_ (i := 22) (N := (some 87)) (v := ?_) (a' := ?_) rfl rfl (by kernel_rfl) (fun _ _ _ h => h) (Or.inl ⟨by rfl, ?_⟩) ?_ ?_
        rotate_left; (intro w'; go_simp; with_reducible rfl); rotate_left; (simp only [Act.put, s1_, s2_, s3_, i64_w, i32_w]; rfl)
        refine pq_ (i := 23) (N := (some 88)) (v := ?_) (a' := ?_) rfl rfl (by kernel_rfl) (fun _ _ _ h => h) (Or.inl ⟨by rfl, ?_⟩) ?_ ?_
        rotate_left; (intro w'; go_simp; with_reducible rfl); rotate_left; (simp only [Act.put, s1_, s2_, s3_, i64_w, i32_w]; rfl)
        clear hHeld
        have bA := Bw.box1 (w3.drewN 1) (.cells #[.int .i64 4, .int .i64 m, .int .i64 s] 79)
        have bDA := bD.trans bA
        refine one_ (i := 24) (N := (some 89)) #[true, true, true, true, true, true, true, true, true, true, true, true, true, true, true, true, true, true, true, true, true, true, true, true, true, false, false] rfl rfl (by kernel_rfl) (by decide) (fun K hK => ?_)
        refine value_ (w1 := ?_) (v := ?_) (by rfl) rfl ?_ ?_
        rotate_left 2
        ·go_simp
         constructor
         ·rfl
         ·rfl
        refine hK.out _ _ ⟨pw_cell_below bDA.out y0, pw_cell_below bDA.out y1, pw_cell_below bDA.out g3, pw_cell_below bDA.out g5, pw_cell_below bDA.out xm, pw_cell_below bDA.out xb⟩ (fun hHeld => ?_)
        clear hK K; refine norm_ (a' := ?_) ?_ ?_; rotate_left; (show Act.put _ (some 89) _ = _; simp only [Act.put, s1_, s2_, s3_, i64_w, i32_w]; rfl)
        refine last_ (i := 25) (N := (some 90)) #[true, true, true, true, true, true, true, true, true, true, true, true, true, true, true, true, true, true, true, true, true, true, true, true, true, true, false] rfl rfl (by kernel_rfl) (by decide) (fun K hK => ?_)
        refine step_append_cells (w0 := w3.drewN 1) (w.heap.size + 1) (by rfl) (.tmp 65) (.tmp 89) 75 79 (.agg #[.int .i64 0, .int .i64 0, .int .i64 0]) 3 24 rfl Try.underlying75 info_side rfl (by decide) (by decide) u4 j (nums .i64 (sdF lv ms bd j)) [.int .i64 4, .int .i64 m, .int .i64 s] rfl rfl rfl (by simp [Value.oneCell']) (HF2.out.to bD).out (Below.refl _ _) (by have h1 := HB2.out.size; have h2 := bD.size; have h3 := HSZ0.out; clear e1 eA eB eC eD; omega) (by clear e1 eA eB eC eD; omega) ?_
        intro v1 wd od hBd hgd had
        have HF3 := hid (show FO wd (w.heap.size + 1) 79 3 v1 (j + 1) (sdF lv ms bd (j + 1)) from ⟨by rw [HSN.out, nums_append]; exact od⟩)
        have HB3 := hid (show Bw _ wd from ⟨(HB2.out.trans bD).out.grown hgd (HB2.out.trans bD).size (fun q hq => by have h1 := own_base HF2.out.out q hq; have h3 := HSZ0.out; clear e1 eA eB eC eD; omega)⟩)
        refine hK.out _ _ ?_
        clear hK K; refine norm_ (a' := ?_) ?_ ?_; rotate_left; (show Act.put _ (some 90) _ = _; simp only [Act.put, s1_, s2_, s3_, i64_w, i32_w]; rfl)
        refine last_ (i := 26) (N := (some 4)) #[true, true, true, true, true, true, true, true, true, true, true, true, true, true, true, true, true, true, true, true, true, true, true, true, true, true, true] rfl rfl (by kernel_rfl) (by decide) (fun K hK => ?_)
        refine value_ (w1 := ?_) (v := ?_) (by rfl) rfl ?_ ?_
        rotate_left 2
        ·go_simp
         constructor
         ·rfl
         ·rfl
        refine hK.out _ _ ?_
        clear hK K; refine norm_ (a' := ?_) ?_ ?_; rotate_left; (show Act.put _ (some 4) _ = _; simp only [Act.put, s1_, s2_, s3_, i64_w, i32_w]; rfl)
        refine done_ (by kernel_rfl) ?_
        clear bA bDA hgd had od hBd bD eA eB eC eD
        go_wp2
        go_roundw
        case rel => exact ⟨j + 1, hkk.out.1, by go_num, HF3, HB3, HU3⟩
        case measure => simp [intOf]; clear e1; omega
  ·obtain rfl : nm = j := by omega
   have t1 : decide ((nm : Int) < (nm : Int)) = false := decide_eq_false (by omega)
   have hkb0 := (HB.out.out.block _ (blk_lt HK0.out)).trans HK0.out
   have g6 := (blk_cell hkb0 6).trans (show _ = some (Value.slice (some ag) 8 cg) from rfl)
   have hB := HB00.out.trans HB.out
   have HUT := hid (useTo_yes nm 0 (fun i _ hi => HU.out i (by omega)))
   have s4 := HHV.out.1
   have s5 := HHV.out.2
   have rg1 := (rg.to hB).sub 0 4 (by omega) (by omega)
   have rg2 := (rg.to hB).sub 4 4 (by omega) (by omega)
   have ha0 : ag.add 0 = ag := rfl
   rw [ha0] at rg1
   have HK1 := hid (known_sub gh 0)
   have HK2 := hid (known_sub gh 4)
   have HFF := hid (FO.less HF.out (by omega : w.heap.size ≤ w.heap.size + 1))
   clear hkb0 ha0
   go_wp2_with fail
   refine (impl_isGhost _ _ _ _ _ rg1 rfl).mono ?_
   rintro e w2 ⟨rfl, rfl⟩
   rw [HK1.out]
   cases hq : known gh 0 with
   | false =>
    have HU2 := hid (show usable lv ms bd gh = false by rw [HUS.out, HUT.out, hq]; rfl)
    clear hq
    go_wp2
    exact bodyPost_ret (v := .tuple #[u4, .bool false]) (by simp [results, Try.results51, go_sem]) rfl ⟨_, by rw [HU2.out], fun h => by (rw [HU2.out] at h; cases h), hB⟩
   | true =>
    have HQ := hid hq
    clear hq
    go_wp2_with fail
    refine (impl_isGhost _ _ _ _ _ rg2 rfl).mono ?_
    rintro e w3 ⟨rfl, rfl⟩
    rw [HK2.out]
    have HU2 := hid (show usable lv ms bd gh = known gh 4 by rw [HUS.out, HUT.out, HQ.out]; rfl)
    go_wp2
    exact bodyPost_ret (v := .tuple #[u4, .bool (known gh 4)]) (by simp [results, Try.results51, go_sem]) rfl ⟨_, by rw [HU2.out], fun _ => HFF.out, hB⟩
end Go.Proofs.Ytkhjkcefkampkaa.U
