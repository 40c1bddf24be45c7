
/- Fluxes between two leaves. -/
import Derived.Test.YtkendhkaheoinaaG2
import Derived.Test.YtkendhkaheoinaaG5
import Derived.Test.YtkendhkaheoinaaG21
import Derived.Test.YtkendhkaheoinaaG8
import Derived.Test.YtkendhkaheoinaaG6
import Derived.Test.YtkendhkaheoinaaWInvWords
set_option linter.unusedVariables false
set_option linter.unusedSimpArgs false
namespace Go.Proofs.Ytkendhkaheoinaa.U
open Go.RowKit Go.Lib Go.Proofs.YtkendhkaheoinaaW.PrintWords
attribute [local go_sem] go_max2 go_min2
theorem tdiv_range {a b : Int} (h : -1000000000000000 ≤ a ∧ a ≤ 1000000000000000) (hb : 0 < b) : -1000000000000000 ≤ Int.tdiv a b ∧ Int.tdiv a b ≤ 1000000000000000 := by
 rcases Int.lt_or_le a 0 with h0 | h0
 ·have e : Int.tdiv a b = -(Int.tdiv (-a) b) := by rw [Int.neg_tdiv]; omega
  have h1 := Int.tdiv_nonneg (show 0 ≤ -a by omega) (Int.le_of_lt hb)
  have h2 : Int.tdiv (-a) b ≤ -a := by
   rw [Int.tdiv_eq_ediv_of_nonneg (by omega)]
   exact Int.ediv_le_self _ (by omega)
  omega
 ·have h1 := Int.tdiv_nonneg h0 (Int.le_of_lt hb)
  have h2 : Int.tdiv a b ≤ a := by
   rw [Int.tdiv_eq_ediv_of_nonneg h0]
   exact Int.ediv_le_self _ h0
  omega
theorem wid_pos {l : Int} (h : 0 ≤ l ∧ l ≤ 4) : 1 ≤ wid l := by
 have : l = 0 ∨ l = 1 ∨ l = 2 ∨ l = 3 ∨ l = 4 := by omega
 rcases this with e | e | e | e | e <;> rw [e] <;> decide
def actB (t l : Int) : Bool := inR l 0 4 && (decide (t ≥ 0) && (Int.tmod t (wid l) == 0))
theorem spec_IsActive (t l : Int) (w : World) (ht : t ≤ 9223372036854775807) :
  Calls Try.prog 37 #[.int .i64 t, .int .i64 l] w fun e w' => e = .returned (.bool (actB t l)) ∧ w = w' := by
 cases h2 : decide (t ≥ 0) with
 | false =>
  have HR := hid (show actB t l = false by rw [actB, h2]; simp)
  go_enter Try.func37, Try.ntmps37
  go_wp2_with fail
  refine (spec_WidthOf l _).mono ?_
  rintro e w1 ⟨rfl, rfl⟩
  go_wp2
  go_ret
  exact ⟨ret_bool HR.out.symm, rfl⟩
 | true =>
  cases h : inR l 0 4 with
  | false =>
   have HR := hid (show actB t l = false by rw [actB, h]; rfl)
   have hw : wid l = 0 := by
    have h3 := inR_false h
    unfold wid
    rw [if_neg (by omega), if_neg (by omega), if_neg (by omega), if_neg (by omega), if_neg (by omega)]
   have hd : decide (0 < wid l) = false := decide_eq_false (by omega)
   have hd2 : decide (wid l > 0) = false := decide_eq_false (by omega)
   clear h hw
   go_enter Try.func37, Try.ntmps37
   go_wp2_with fail
   refine (spec_WidthOf l _).mono ?_
   rintro e w1 ⟨rfl, rfl⟩
   go_wp2
   go_ret
   exact ⟨ret_bool HR.out.symm, rfl⟩
  | true =>
   have hw := wid_pos (inR_iff.1 h)
   have HR := hid (show actB t l = (Int.tmod t (wid l) == 0) by rw [actB, h, h2]; simp)
   have hd : decide (0 < wid l) = true := decide_eq_true (by omega)
   have hd2 : decide (wid l > 0) = true := decide_eq_true (by omega)
   have hz : (wid l == 0) = false := by simp; omega
   clear h
   go_enter Try.func37, Try.ntmps37
   go_wp2_with fail
   refine (spec_WidthOf l _).mono ?_
   rintro e w1 ⟨rfl, rfl⟩
   go_wp2
   go_ret
   exact ⟨ret_bool HR.out.symm, rfl⟩
theorem impl_DivTrunc (a b : Int) (w : World) (h : -1000000000000000 ≤ a ∧ a ≤ 1000000000000000) (hb : 0 < b) :
  Calls Try.prog 111 #[.int .i64 a, .int .i64 b] w fun e w' => e = .returned (.int .i64 (Int.tdiv a b)) ∧ w = w' := by
 have t1 : decide (b ≤ 0) = false := decide_eq_false (by omega)
 have t2 : (b == 0) = false := by simp; omega
 have hq := tdiv_range h hb
 have e1 : IntKind.i64.wrap (Int.tdiv a b) = Int.tdiv a b := i64w (by omega) (by omega)
 clear hq
 go_enter Try.func111, Try.ntmps111
 go_wp2
 go_ret
 exact ⟨rfl, rfl⟩
theorem impl_ClampN (x lo hi : Int) (w : World) (h : lo ≤ hi) :
  Calls Try.prog 112 #[.int .i64 x, .int .i64 lo, .int .i64 hi] w fun e w' => e = .returned (.int .i64 (smallMin (bigMax x lo) hi)) ∧ w = w' := by
 have t1 : decide (hi < lo) = false := decide_eq_false (by omega)
 go_enter Try.func112, Try.ntmps112
 go_wp2
 go_ret
 exact ⟨rfl, rfl⟩
def pairF (sa sb ma mb la lb : Int) : Int := bigMax (smallMin (Int.tdiv ((sa - sb) * wid (bigMax la lb)) (32 * (wid la + wid lb))) (Int.tdiv ma 4)) (-(Int.tdiv mb 4))
structure FxOk (sa sb ma mb la lb : Int) : Prop where
 la : 0 ≤ la ∧ la ≤ 4
 lb : 0 ≤ lb ∧ lb ≤ 4
 ma : 0 ≤ ma ∧ ma ≤ 1000000000
 mb : 0 ≤ mb ∧ mb ≤ 1000000000
 sa : 0 ≤ sa ∧ sa ≤ 100000000000
 sb : 0 ≤ sb ∧ sb ≤ 100000000000
theorem FxOk.num {sa sb ma mb la lb : Int} (h : FxOk sa sb ma mb la lb) : -10000000000000 ≤ (sa - sb) * wid (bigMax la lb) ∧ (sa - sb) * wid (bigMax la lb) ≤ 10000000000000 := by
 have h1 := wid_range (bigMax la lb)
 have h2 := h.sa
 have h3 := h.sb
 have h4 : (sa - sb) * wid (bigMax la lb) ≤ 100000000000 * wid (bigMax la lb) := Int.mul_le_mul_of_nonneg_right (by omega) h1.1
 have h5 : (-100000000000) * wid (bigMax la lb) ≤ (sa - sb) * wid (bigMax la lb) := Int.mul_le_mul_of_nonneg_right (by omega) h1.1
 omega
theorem pairF_clamp {q lo hi : Int} (h : lo ≤ hi) : smallMin (bigMax q lo) hi = bigMax (smallMin q hi) lo := by
 simp only [smallMin_min, bigMax_max]
 omega
set_option maxHeartbeats 4000000 in
theorem impl_flux (sa sb ma mb la lb : Int) (w : World) (h : FxOk sa sb ma mb la lb) :
  Calls Try.prog 92 #[.agg #[.int .i64 la, .int .i64 ma, .int .i64 sa], .agg #[.int .i64 lb, .int .i64 mb, .int .i64 sb]] w fun e w' => e = .returned (.int .i64 (pairF sa sb ma mb la lb)) ∧ Bw w w' := by
 have hn := h.num
 have hwa := wid_range la
 have hwb := wid_range lb
 have hwa1 := wid_pos h.la
 have hwb1 := wid_pos h.lb
 have h1 := h.sa
 have h2 := h.sb
 have h3 := h.ma
 have h4 := h.mb
 have HQR := hid (show -1000000000000000 ≤ (sa - sb) * wid (bigMax la lb) ∧ (sa - sb) * wid (bigMax la lb) ≤ 1000000000000000 by omega)
 have HQP := hid (show 0 < 32 * (wid la + wid lb) by omega)
 have hm4 := tdiv_range (a := mb) (b := 4) (by omega) (by omega)
 have hm5 := Int.tdiv_nonneg h4.1 (show (0 : Int) ≤ 4 by omega)
 have hm6 := Int.tdiv_nonneg h3.1 (show (0 : Int) ≤ 4 by omega)
 have HLH := hid (show -(Int.tdiv mb 4) ≤ Int.tdiv ma 4 by omega)
 have HF := hid (show smallMin (bigMax (Int.tdiv ((sa - sb) * wid (bigMax la lb)) (32 * (wid la + wid lb))) (-(Int.tdiv mb 4))) (Int.tdiv ma 4) = pairF sa sb ma mb la lb by rw [pairF_clamp HLH.out, pairF])
 have e1 : IntKind.i64.wrap (sa - sb) = sa - sb := i64w (by omega) (by omega)
 have e2 : IntKind.i64.wrap ((sa - sb) * wid (bigMax la lb)) = (sa - sb) * wid (bigMax la lb) := by clear e1; exact i64w (by omega) (by omega)
 have e3 : IntKind.i64.wrap (wid la + wid lb) = wid la + wid lb := by clear e1 e2; exact i64w (by omega) (by omega)
 have e4 : IntKind.i64.wrap (32 * (wid la + wid lb)) = 32 * (wid la + wid lb) := by clear e1 e2 e3; exact i64w (by omega) (by omega)
 have e5 : IntKind.i64.wrap (-(Int.tdiv mb 4)) = -(Int.tdiv mb 4) := by clear e1 e2 e3 e4; exact i64w (by omega) (by omega)
 have e6 : IntKind.i64.wrap (Int.tdiv ma 4) = Int.tdiv ma 4 := by
  clear e1 e2 e3 e4 e5
  have := tdiv_range (a := ma) (b := 4) (by omega) (by omega)
  exact i64w (by omega) (by omega)
 have e7 : IntKind.i64.wrap (Int.tdiv mb 4) = Int.tdiv mb 4 := by clear e1 e2 e3 e4 e5 e6; exact i64w (by omega) (by omega)
 have b0 := (Bw.box1 w (.cells #[.int .i64 la, .int .i64 ma, .int .i64 sa] 98)).alloc (.cells #[.int .i64 lb, .int .i64 mb, .int .i64 sb] 98)
 have g0 := box_cell ((Bw.refl (w.alloc (.cells #[.int .i64 la, .int .i64 ma, .int .i64 sa] 98))).alloc (.cells #[.int .i64 lb, .int .i64 mb, .int .i64 sb] 98)) 0
 have g1 := box_cell ((Bw.refl (w.alloc (.cells #[.int .i64 la, .int .i64 ma, .int .i64 sa] 98))).alloc (.cells #[.int .i64 lb, .int .i64 mb, .int .i64 sb] 98)) 1
 have g2 := box_cell ((Bw.refl (w.alloc (.cells #[.int .i64 la, .int .i64 ma, .int .i64 sa] 98))).alloc (.cells #[.int .i64 lb, .int .i64 mb, .int .i64 sb] 98)) 2
 have k0 := box_cell (Bw.refl ((w.alloc (.cells #[.int .i64 la, .int .i64 ma, .int .i64 sa] 98)).alloc (.cells #[.int .i64 lb, .int .i64 mb, .int .i64 sb] 98))) 0
 have k1 := box_cell (Bw.refl ((w.alloc (.cells #[.int .i64 la, .int .i64 ma, .int .i64 sa] 98)).alloc (.cells #[.int .i64 lb, .int .i64 mb, .int .i64 sb] 98))) 1
 have k2 := box_cell (Bw.refl ((w.alloc (.cells #[.int .i64 la, .int .i64 ma, .int .i64 sa] 98)).alloc (.cells #[.int .i64 lb, .int .i64 mb, .int .i64 sb] 98))) 2
 simp only [List.getElem?_toArray, List.getElem?_cons_zero, List.getElem?_cons_succ] at g0 g1 g2 k0 k1 k2
 rw [show (w.alloc (.cells #[.int .i64 la, .int .i64 ma, .int .i64 sa] 98)).heap.size = w.heap.size + 1 by simp] at k0 k1 k2
 clear hn hwa hwb hwa1 hwb1 h1 h2 h3 h4 hm4 hm5 hm6 h
 go_enter Try.func92, Try.ntmps92
 go_upto_region 1 with fail
 generalize ((w.alloc (.cells #[.int .i64 la, .int .i64 ma, .int .i64 sa] 98)).alloc (.cells #[.int .i64 lb, .int .i64 mb, .int .i64 sb] 98)) = W1 at *
 go_quiet ((go_at_call 85; exact Calls.quiet_of_same ((impl_WidthOf _ _).mono fun e w' h => ⟨h.1, h.2.symm⟩)))
 go_upto_region 2 with fail
 have b1 : Bw W1 (W1.drewN nq) := Bw.drawn ⟨⟨nq, rfl⟩⟩
 replace g0 := pw_cell_below b1.out g0
 replace g1 := pw_cell_below b1.out g1
 replace g2 := pw_cell_below b1.out g2
 replace k0 := pw_cell_below b1.out k0
 replace k1 := pw_cell_below b1.out k1
 replace k2 := pw_cell_below b1.out k2
 replace b0 := b0.trans b1
 clear b1
 generalize (W1.drewN nq) = W2 at *
 go_quiet (first | (go_at_call 85; exact Calls.quiet_of_same ((impl_WidthOf _ _).mono fun e w' h => ⟨h.1, h.2.symm⟩)) | (go_at_call 111; exact Calls.quiet_of_same ((impl_DivTrunc _ _ _ HQR.out HQP.out).mono fun e w' h => ⟨h.1, h.2.symm⟩)))
 go_upto_region 3 with fail
 have b1 : Bw W2 (W2.drewN nq) := Bw.drawn ⟨⟨nq, rfl⟩⟩
 replace g0 := pw_cell_below b1.out g0
 replace g1 := pw_cell_below b1.out g1
 replace g2 := pw_cell_below b1.out g2
 replace k0 := pw_cell_below b1.out k0
 replace k1 := pw_cell_below b1.out k1
 replace k2 := pw_cell_below b1.out k2
 replace b0 := b0.trans b1
 clear b1
 generalize (W2.drewN nq) = W3 at *
 go_wp2_with fail
 refine (impl_ClampN _ _ _ _ HLH.out).mono ?_
 rintro e w4 ⟨rfl, rfl⟩
 go_wp2
 go_ret
 exact ⟨ret_int HF.out, b0⟩
end Go.Proofs.Ytkendhkaheoinaa.U
set_option linter.unusedVariables false
set_option linter.unusedSimpArgs false
namespace Go.Proofs.Ytkendhkaheoinaa.U
open Go.RowKit Go.Lib Go.Proofs.YtkendhkaheoinaaW.PrintWords
open Go.Proofs.YtkendhkaheoinaaW.PrintLast Go.Proofs.YtkendhkaheoinaaW.PrintMore
def fluxS (s : Sta) (i : Nat) : Int := pairF (surf s i) (surf s (i + 1)) (rd s.ms (i : Int)) (rd s.ms ((i + 1 : Nat) : Int)) (gc s.lv i).l (gc s.lv (i + 1)).l
theorem surf_range {s : Sta} (hs : StF s) {i : Nat} (hi : i < s.lv.length) : 0 ≤ surf s i ∧ surf s i ≤ 200000000 := by
 have a := hs.lv i hi
 have b := hs.bv (gc s.lv i).r.toNat (by omega)
 rw [Int.toNat_of_nonneg a.2.1] at b
 have c := hs.mv i hi
 have d := pow2_range (gc s.lv i).l
 have e : rd s.ms (i : Int) * pow2 (gc s.lv i).l ≤ rd s.ms (i : Int) * 16 := Int.mul_le_mul_of_nonneg_left d.2 c.1
 have f : 0 ≤ rd s.ms (i : Int) * pow2 (gc s.lv i).l := Int.mul_nonneg c.1 (by omega)
 rw [surf]
 omega
theorem flux_ok {s : Sta} (hs : StF s) {i : Nat} (hi : i + 1 < s.lv.length) : FxOk (surf s i) (surf s (i + 1)) (rd s.ms (i : Int)) (rd s.ms ((i + 1 : Nat) : Int)) (gc s.lv i).l (gc s.lv (i + 1)).l := by
 have a := surf_range hs (show i < s.lv.length by omega)
 have b := surf_range hs hi
 have c := hs.mv i (by omega)
 have d := hs.mv (i + 1) hi
 have e := (hs.lv i (by omega)).1
 have f := (hs.lv (i + 1) hi).1
 exact ⟨by omega, by omega, by omega, by omega, by omega, by omega⟩
theorem sideN (x : Value) (s : Sta) (i : Nat) (w : World) (hx : StR w x s) (hs : StF s) (hi : i < s.lv.length) {v : Int} (hv : v = (i : Int) := by rfl) :
  Calls Try.prog 93 #[x, .int .i64 v] w fun e w' => e = .returned (.agg #[.int .i64 (gc s.lv i).l, .int .i64 (rd s.ms (i : Int)), .int .i64 (surf s i)]) ∧ Bw w w' := by
 subst hv
 exact impl_side x s i w hx hs hi
set_option maxHeartbeats 4000000 in
set_option maxRecDepth 100000 in
theorem impl_stFlux (x : Value) (s : Sta) (i : Nat) (w : World) (hx : StR w x s) (hs : StF s) (hi : i + 1 < s.lv.length) :
  Calls Try.prog 60 #[x, .int .i64 i] w fun e w' => e = .returned (.int .i64 (fluxS s i)) ∧ Bw w w' := by
 have hx0 := hx
 have hn := hs.n
 obtain ⟨A0, c0, A1, c1, A2, c2, A3, c3, rfl, r0, r1, r2, r3⟩ := hx
 have b0 := Bw.box1 w (.cells #[.int .i64 s.ro, .slice A0 s.lv.length c0, .slice A1 s.ms.length c1, .slice A2 s.ts.length c2, .slice A3 s.bd.length c3] 29)
 have g0 := box_cell (Bw.refl (w.alloc (.cells #[.int .i64 s.ro, .slice A0 s.lv.length c0, .slice A1 s.ms.length c1, .slice A2 s.ts.length c2, .slice A3 s.bd.length c3] 29))) 0
 have g1 := box_cell (Bw.refl (w.alloc (.cells #[.int .i64 s.ro, .slice A0 s.lv.length c0, .slice A1 s.ms.length c1, .slice A2 s.ts.length c2, .slice A3 s.bd.length c3] 29))) 1
 have g2 := box_cell (Bw.refl (w.alloc (.cells #[.int .i64 s.ro, .slice A0 s.lv.length c0, .slice A1 s.ms.length c1, .slice A2 s.ts.length c2, .slice A3 s.bd.length c3] 29))) 2
 have g3 := box_cell (Bw.refl (w.alloc (.cells #[.int .i64 s.ro, .slice A0 s.lv.length c0, .slice A1 s.ms.length c1, .slice A2 s.ts.length c2, .slice A3 s.bd.length c3] 29))) 3
 have g4 := box_cell (Bw.refl (w.alloc (.cells #[.int .i64 s.ro, .slice A0 s.lv.length c0, .slice A1 s.ms.length c1, .slice A2 s.ts.length c2, .slice A3 s.bd.length c3] 29))) 4
 simp only [List.getElem?_toArray, List.getElem?_cons_zero, List.getElem?_cons_succ] at g0 g1 g2 g3 g4
 have e1 : IntKind.i64.wrap ((i : Int) + 1) = (i : Int) + 1 := i64w (by omega) (by omega)
 go_enter Try.func60, Try.ntmps60
 go_upto_region 1 with fail
 generalize (w.alloc (.cells #[.int .i64 s.ro, .slice A0 s.lv.length c0, .slice A1 s.ms.length c1, .slice A2 s.ts.length c2, .slice A3 s.bd.length c3] 29)) = W1 at *
 refine start_ (n := 9) (S := fun w' => w'.cell? ⟨w.heap.size, 0, none⟩ = some (.int .i64 s.ro) ∧ w'.cell? ⟨w.heap.size, 1, none⟩ = some (.slice A0 s.lv.length c0) ∧ w'.cell? ⟨w.heap.size, 2, none⟩ = some (.slice A1 s.ms.length c1) ∧ w'.cell? ⟨w.heap.size, 3, none⟩ = some (.slice A2 s.ts.length c2) ∧ w'.cell? ⟨w.heap.size, 4, none⟩ = some (.slice A3 s.bd.length c3)) (ds := [8]) #[false, false, false, false, false, false, false, false, false] (by kernel_rfl) rfl rfl ⟨g0, g1, g2, g3, g4⟩ (fun hHeld => ?_)
 have bD := Bw.drawn (a := W1) ⟨⟨1, rfl⟩⟩
 refine tq_ (i := 0) (N := (some 5)) (v := ?_) (a' := ?_) rfl rfl (by kernel_rfl) (fun _ _ _ h => h) (Or.inl ⟨by rfl, ?_⟩) hHeld ?_ ?_
 rotate_left; (rintro w' ⟨s0, s1, s2, s3, s4⟩; go_simp; with_reducible rfl); rotate_left; (simp only [Act.put, s1_, s2_, s3_, i64_w, i32_w]; rfl)
 refine pq_ (i := 1) (N := (some 6)) (v := ?_) (a' := ?_) rfl rfl (by kernel_rfl) (fun _ _ _ h => h) (Or.inl ⟨by rfl, ?_⟩) ?_ ?_
 rotate_left; (intro w'; go_simp; with_reducible rfl); rotate_left; (simp only [Act.put, s1_, s2_, s3_, i64_w, i32_w]; rfl)
 refine tq_ (i := 3) (N := (some 8)) (v := ?_) (a' := ?_) rfl rfl (by kernel_rfl) (fun _ _ _ h => h) (Or.inl ⟨by rfl, ?_⟩) hHeld ?_ ?_
 rotate_left; (rintro w' ⟨s0, s1, s2, s3, s4⟩; go_simp; with_reducible rfl); rotate_left; (simp only [Act.put, s1_, s2_, s3_, i64_w, i32_w]; rfl)
 refine pq_ (i := 4) (N := (some 9)) (v := ?_) (a' := ?_) rfl rfl (by kernel_rfl) (fun _ _ _ h => h) (Or.inl ⟨by rfl, ?_⟩) ?_ ?_
 rotate_left; (intro w'; go_simp; with_reducible rfl); rotate_left; (simp only [Act.put, s1_, s2_, s3_, i64_w, i32_w]; rfl)
 refine pq_ (i := 5) (N := (some 10)) (v := ?_) (a' := ?_) rfl rfl (by kernel_rfl) (fun _ _ _ h => h) (Or.inl ⟨by rfl, ?_⟩) ?_ ?_
 rotate_left; (intro w'; go_simp; with_reducible rfl); rotate_left; (simp only [Act.put, s1_, s2_, s3_, i64_w, i32_w]; rfl)
 clear hHeld
 refine one_ (i := 2) (N := (some 7)) #[true, true, true, true, true, true, false, false, false] rfl rfl (by kernel_rfl) (by decide) (fun K hK => ?_)
 refine goes_ Try.func93 (by kernel_rfl) rfl #[.agg #[.int .i64 s.ro, .slice A0 s.lv.length c0, .slice A1 s.ms.length c1, .slice A2 s.ts.length c2, .slice A3 s.bd.length c3], .int .i64 (i : Int)] (by rfl) rfl rfl (by (try simp only [List.map_toArray, List.map_cons, List.map_nil]); first | done | rfl) ?_
 refine (impl_side _ s i _ (hx0.to (b0.trans bD)) hs (by omega)).mono ?_
 rintro e wa ⟨rfl, ba⟩
 refine ⟨_, rfl, ?_⟩
 have bA := bD.trans ba
 refine hK.out _ _ ⟨pw_cell_below bA.out g0, pw_cell_below bA.out g1, pw_cell_below bA.out g2, pw_cell_below bA.out g3, pw_cell_below bA.out g4⟩ (fun _ => ?_)
 rename_i hJ_
 clear hJ_
 clear hK K; refine norm_ (a' := ?_) ?_ ?_; rotate_left; (show Act.put _ (some 7) _ = _; simp only [Act.put, s1_, s2_, s3_, i64_w, i32_w]; rfl)
 refine one_ (i := 6) (N := (some 11)) #[true, true, true, true, true, true, true, false, false] rfl rfl (by kernel_rfl) (by decide) (fun K hK => ?_)
 refine goes_ Try.func93 (by kernel_rfl) rfl #[.agg #[.int .i64 s.ro, .slice A0 s.lv.length c0, .slice A1 s.ms.length c1, .slice A2 s.ts.length c2, .slice A3 s.bd.length c3], .int .i64 ((i : Int) + 1)] (by rfl) rfl rfl (by (try simp only [List.map_toArray, List.map_cons, List.map_nil]); first | done | rfl) ?_
 refine (sideN _ s (i + 1) _ (hx0.to (b0.trans bA)) hs hi).mono ?_
 rintro e wb ⟨rfl, bb⟩
 refine ⟨_, rfl, ?_⟩
 have bB := bA.trans bb
 refine hK.out _ _ ⟨pw_cell_below bB.out g0, pw_cell_below bB.out g1, pw_cell_below bB.out g2, pw_cell_below bB.out g3, pw_cell_below bB.out g4⟩ (fun _ => ?_)
 rename_i hJ_
 clear hJ_
 clear hK K; refine norm_ (a' := ?_) ?_ ?_; rotate_left; (show Act.put _ (some 11) _ = _; simp only [Act.put, s1_, s2_, s3_, i64_w, i32_w]; rfl)
 refine one_ (i := 7) (N := (some 12)) #[true, true, true, true, true, true, true, true, false] rfl rfl (by kernel_rfl) (by decide) (fun K hK => ?_)
 refine goes_ Try.func92 (by kernel_rfl) rfl #[.agg #[.int .i64 (gc s.lv i).l, .int .i64 (rd s.ms (i : Int)), .int .i64 (surf s i)], .agg #[.int .i64 (gc s.lv (i + 1)).l, .int .i64 (rd s.ms ((i + 1 : Nat) : Int)), .int .i64 (surf s (i + 1))]] (by rfl) rfl rfl (by (try simp only [List.map_toArray, List.map_cons, List.map_nil]); first | done | rfl) ?_
 refine (impl_flux _ _ _ _ _ _ _ (flux_ok hs hi)).mono ?_
 rintro e wc ⟨rfl, bc⟩
 refine ⟨_, rfl, ?_⟩
 have bC := bB.trans bc
 refine hK.out _ _ ⟨pw_cell_below bC.out g0, pw_cell_below bC.out g1, pw_cell_below bC.out g2, pw_cell_below bC.out g3, pw_cell_below bC.out g4⟩ (fun _ => ?_)
 rename_i hJ_
 clear hJ_
 clear hK K; refine norm_ (a' := ?_) ?_ ?_; rotate_left; (show Act.put _ (some 12) _ = _; simp only [Act.put, s1_, s2_, s3_, i64_w, i32_w]; rfl)
 refine last_ (i := 8) (N := (some 4)) #[true, true, true, true, true, true, true, true, true] rfl rfl (by kernel_rfl) (by decide) (fun K hK => ?_)
 refine value_ (w1 := ?_) (v := ?_) (by rfl) rfl ?_ ?_
 rotate_left 2
 ·go_simp
  constructor
  ·rfl
  ·rfl
 refine hK.out _ _ ?_
 clear hK K; refine norm_ (a' := ?_) ?_ ?_; rotate_left; (show Act.put _ (some 4) _ = _; simp only [Act.put, s1_, s2_, s3_, i64_w, i32_w]; rfl)
 refine done_ (by kernel_rfl) ?_
 go_wp2
 go_ret
 exact ⟨rfl, b0.trans bC⟩
end Go.Proofs.Ytkendhkaheoinaa.U
set_option linter.unusedVariables false
set_option linter.unusedSimpArgs false
namespace Go.Proofs.Ytkendhkaheoinaa.U
open Go.RowKit Go.Lib Go.Proofs.YtkendhkaheoinaaW.PrintWords
attribute [local go_sem] go_max2 go_min2
def faceL (l : List Ce) (i : Nat) : Int := bigMax (gc l i).l (gc l (i + 1)).l
def actTo (l : List Ce) (t : Int) : Nat → List Int
 | 0 => []
 | j + 1 => if actB t (faceL l j) = true then actTo l t j ++ [(j : Int)] else actTo l t j
theorem actTo_len (l : List Ce) (t : Int) : ∀ j, (actTo l t j).length ≤ j
 | 0 => by simp [actTo]
 | j + 1 => by
  have ih := actTo_len l t j
  rw [actTo]
  split
  ·rw [List.length_append]
   simp only [List.length_cons, List.length_nil]
   omega
  ·omega
theorem impl_faceLevel (ro : Int) (A : Option Addr) (n c : Nat) (l : List Ce) (i : Nat) (w : World) (r : IdR w A n l) (hi : i + 1 < n) :
  Calls Try.prog 55 #[.agg #[.int .i64 ro, .slice A n c], .int .i64 i] w fun e w' => e = .returned (.int .i64 (faceL l i)) ∧ Bw w w' := by
 have hmx := r.max
 have b0 := Bw.box1 w (.cells #[.int .i64 ro, .slice A n c] 26)
 have g0 := box_cell (Bw.refl (w.alloc (.cells #[.int .i64 ro, .slice A n c] 26))) 0
 have g1 := box_cell (Bw.refl (w.alloc (.cells #[.int .i64 ro, .slice A n c] 26))) 1
 simp only [List.getElem?_toArray, List.getElem?_cons_zero, List.getElem?_cons_succ] at g0 g1
 obtain ⟨ad, rfl, x0, x1, x2⟩ := (r.to b0).at i (by omega)
 obtain ⟨_, e_, y0, y1, y2⟩ := (r.to b0).at (i + 1) hi
 obtain rfl := Option.some.inj e_
 have e1 : IntKind.i64.wrap ((i : Int) + 1) = (i : Int) + 1 := i64w (by omega) (by omega)
 have i4 : (0 : Int) ≤ (i : Int) := by clear e1; omega
 have i5 : (i : Int) < (n : Int) := by clear e1; omega
 have i6 : (0 : Int) ≤ (i : Int) + 1 := by clear e1; omega
 have i7 : (i : Int) + 1 < (n : Int) := by clear e1; omega
 clear e_
 go_enter Try.func55, Try.ntmps55
 go_wp2
 go_quiet (fail)
 go_wp2
 go_ret
 exact ⟨rfl, b0.trans (Bw.drawn ⟨⟨_, rfl⟩⟩)⟩
theorem spec_l05Face (ro : Int) (A : Option Addr) (n c : Nat) (l : List Ce) (i : Nat) (w : World) (r : IdR w A n l) (hi : i + 1 < n) :
  Calls Try.prog 38 #[.agg #[.int .i64 ro, .slice A n c], .int .i64 i] w fun e w' => e = .returned (.int .i64 (faceL l i)) ∧ Bw w w' := by
 have hmx := r.max
 have b0 := Bw.box1 w (.cells #[.int .i64 ro, .slice A n c] 26)
 have g0 := box_cell (Bw.refl (w.alloc (.cells #[.int .i64 ro, .slice A n c] 26))) 0
 have g1 := box_cell (Bw.refl (w.alloc (.cells #[.int .i64 ro, .slice A n c] 26))) 1
 simp only [List.getElem?_toArray, List.getElem?_cons_zero, List.getElem?_cons_succ] at g0 g1
 obtain ⟨ad, rfl, x0, x1, x2⟩ := (r.to b0).at i (by omega)
 obtain ⟨_, e_, y0, y1, y2⟩ := (r.to b0).at (i + 1) hi
 obtain rfl := Option.some.inj e_
 have e1 : IntKind.i64.wrap ((i : Int) + 1) = (i : Int) + 1 := i64w (by omega) (by omega)
 have i4 : (0 : Int) ≤ (i : Int) := by clear e1; omega
 have i5 : (i : Int) < (n : Int) := by clear e1; omega
 have i6 : (0 : Int) ≤ (i : Int) + 1 := by clear e1; omega
 have i7 : (i : Int) + 1 < (n : Int) := by clear e1; omega
 clear e_
 go_enter Try.func38, Try.ntmps38
 go_wp2
 go_quiet (fail)
 go_wp2
 go_ret
 exact ⟨rfl, b0.trans (Bw.drawn ⟨⟨_, rfl⟩⟩)⟩
end Go.Proofs.Ytkendhkaheoinaa.U
set_option linter.unusedVariables false
set_option linter.unusedSimpArgs false
namespace Go.Proofs.Ytkendhkaheoinaa.U
open Go.RowKit Go.Lib Go.Proofs.YtkendhkaheoinaaW.PrintWords
theorem prod_range {tr r m : Int} (ht : 0 ≤ tr ∧ tr ≤ 1000 * m) (hr : 0 ≤ r ∧ r ≤ m) (hm : 1 ≤ m ∧ m ≤ 10000000) : 0 ≤ tr * r ∧ tr * r ≤ 100000000000000000 := by
 have h1 : tr * r ≤ 10000000000 * r := Int.mul_le_mul_of_nonneg_right (by omega) hr.1
 have h2 : 0 ≤ tr * r := Int.mul_nonneg ht.1 hr.1
 omega
def outA (tr m r : Int) : Int := if m = 0 then 0 else Int.tdiv (tr * r) m
def outB (tr m r l : Int) : Int := if m = 0 then 0 else Int.tdiv (tr * (r + l)) m - Int.tdiv (tr * r) m
theorem tdiv_wide {a b : Int} (h : 0 ≤ a ∧ a ≤ 100000000000000000) (hb : 0 < b) : 0 ≤ Int.tdiv a b ∧ Int.tdiv a b ≤ 100000000000000000 := by
 have h1 := Int.tdiv_nonneg h.1 (Int.le_of_lt hb)
 have h2 : Int.tdiv a b ≤ a := by
  rw [Int.tdiv_eq_ediv_of_nonneg h.1]
  exact Int.ediv_le_self _ h.1
 omega
theorem impl_ShareOut (tr r m : Int) (w : World) (hm : 1 ≤ m ∧ m ≤ 10000000) (ht : 0 ≤ tr ∧ tr ≤ 1000 * m) (hr : 0 ≤ r ∧ r ≤ m) :
  Calls Try.prog 76 #[.int .i64 tr, .int .i64 r, .int .i64 m] w fun e w' => e = .returned (.int .i64 (Int.tdiv (tr * r) m)) ∧ w = w' := by
 have H1 := hid (show inR m 1 10000000 = true from inR_iff.2 hm)
 have H2 := hid (show inR r 0 m = true from inR_iff.2 hr)
 have H3 := hid (show inR tr 0 (1000 * m) = true from inR_iff.2 ht)
 have hp := prod_range ht hr hm
 have hq := tdiv_wide (a := tr * r) (b := m) (by omega) (by omega)
 have e1 : IntKind.i64.wrap (1000 * m) = 1000 * m := i64w (by omega) (by omega)
 have e2 : IntKind.i64.wrap (tr * r) = tr * r := by clear e1; exact i64w (by omega) (by omega)
 have e3 : IntKind.i64.wrap (Int.tdiv (tr * r) m) = Int.tdiv (tr * r) m := by clear e1 e2; exact i64w (by omega) (by omega)
 clear hp hq
 go_enter Try.func76, Try.ntmps76
 go_wp2_with fail
 refine (toBool (within _ _ _ _) H1.out).mono ?_
 rintro e w1 ⟨rfl, rfl⟩
 go_wp2_with fail
 refine (toBool (within _ _ _ _) H2.out).mono ?_
 rintro e w1 ⟨rfl, rfl⟩
 go_wp2_with fail
 refine (toBool (within _ _ _ _) H3.out).mono ?_
 rintro e w1 ⟨rfl, rfl⟩
 go_wp2
 go_ret
 exact ⟨rfl, rfl⟩
theorem impl_LeafOut (tr m r l : Int) (w : World) (hm : 0 ≤ m ∧ m ≤ 10000000) (ht : 0 ≤ tr ∧ tr ≤ 1000 * m) (hr : 0 ≤ r) (hl : 0 ≤ l) (hrl : r + l ≤ m) :
  Calls Try.prog 62 #[.int .i64 tr, .int .i64 m, .int .i64 r, .int .i64 l] w fun e w' => e = .returned (.tuple #[.int .i64 (outA tr m r), .int .i64 (outB tr m r l)]) ∧ w = w' := by
 by_cases h0 : m = 0
 ·have H1 := hid (show inR m 1 10000000 = false by subst h0; rfl)
  have HA := hid (show outA tr m r = 0 ∧ outB tr m r l = 0 by rw [outA, outB, if_pos h0, if_pos h0]; exact ⟨rfl, rfl⟩)
  clear h0
  go_enter Try.func62, Try.ntmps62
  go_wp2_with fail
  refine (toBool (within _ _ _ _) H1.out).mono ?_
  rintro e w1 ⟨rfl, rfl⟩
  go_wp2
  exact bodyPost_ret (v := .tuple #[.int .i64 0, .int .i64 0]) (by simp [results, Try.results62, go_sem]) rfl ⟨by rw [HA.out.1, HA.out.2], rfl⟩
 ·have hm1 : 1 ≤ m ∧ m ≤ 10000000 := by omega
  have H1 := hid (show inR m 1 10000000 = true from inR_iff.2 hm1)
  have H2 := hid (show inR tr 0 (1000 * m) = true from inR_iff.2 ht)
  have H3 := hid (show inR r 0 m = true from inR_iff.2 (by omega))
  have H4 := hid (show inR l 0 (m - r) = true from inR_iff.2 (by omega))
  have HA := hid (show outA tr m r = Int.tdiv (tr * r) m ∧ outB tr m r l = Int.tdiv (tr * (r + l)) m - Int.tdiv (tr * r) m by rw [outA, outB, if_neg h0, if_neg h0]; exact ⟨rfl, rfl⟩)
  have hp := prod_range ht (show 0 ≤ r ∧ r ≤ m by omega) hm1
  have hp2 := prod_range ht (show 0 ≤ r + l ∧ r + l ≤ m by omega) hm1
  have hq := tdiv_wide (a := tr * r) (b := m) (by omega) (by omega)
  have hq2 := tdiv_wide (a := tr * (r + l)) (b := m) (by omega) (by omega)
  have HR1 := hid (show 0 ≤ r ∧ r ≤ m by omega)
  have HR2 := hid (show 0 ≤ r + l ∧ r + l ≤ m by omega)
  have e1 : IntKind.i64.wrap (1000 * m) = 1000 * m := i64w (by omega) (by omega)
  have e2 : IntKind.i64.wrap (m - r) = m - r := by clear e1; exact i64w (by omega) (by omega)
  have e3 : IntKind.i64.wrap (r + l) = r + l := by clear e1 e2; exact i64w (by omega) (by omega)
  have e4 : IntKind.i64.wrap (Int.tdiv (tr * (r + l)) m - Int.tdiv (tr * r) m) = Int.tdiv (tr * (r + l)) m - Int.tdiv (tr * r) m := by clear e1 e2 e3; exact i64w (by omega) (by omega)
  clear hp hp2 hq hq2 h0
  go_enter Try.func62, Try.ntmps62
  go_wp2_with fail
  refine (toBool (within _ _ _ _) H1.out).mono ?_
  rintro e w1 ⟨rfl, rfl⟩
  go_wp2_with fail
  refine (toBool (within _ _ _ _) H2.out).mono ?_
  rintro e w1 ⟨rfl, rfl⟩
  go_wp2_with fail
  refine (toBool (within _ _ _ _) H3.out).mono ?_
  rintro e w1 ⟨rfl, rfl⟩
  go_wp2_with fail
  refine (toBool (within _ _ _ _) H4.out).mono ?_
  rintro e w1 ⟨rfl, rfl⟩
  go_wp2_with fail
  refine (impl_ShareOut _ _ _ _ hm1 ht HR1.out).mono ?_
  rintro e w1 ⟨rfl, rfl⟩
  go_wp2_with fail
  refine (impl_ShareOut _ _ _ _ hm1 ht HR2.out).mono ?_
  rintro e w1 ⟨rfl, rfl⟩
  go_wp2
  exact bodyPost_ret (v := .tuple #[.int .i64 (Int.tdiv (tr * r) m), .int .i64 (Int.tdiv (tr * (r + l)) m - Int.tdiv (tr * r) m)]) (by simp [results, Try.results62, go_sem]) rfl ⟨by rw [HA.out.1, HA.out.2], rfl⟩
end Go.Proofs.Ytkendhkaheoinaa.U
set_option linter.unusedVariables false
set_option linter.unusedSimpArgs false
namespace Go.Proofs.Ytkendhkaheoinaa.U
open Go.RowKit Go.Lib Go.Proofs.YtkendhkaheoinaaW.PrintWords
def fl (s : Sta) (t : Int) (i : Nat) : Int := if i + 1 < s.lv.length ∧ actB t (faceL s.lv i) = true then fluxS s i else 0
def flL (s : Sta) (t : Int) : Nat → Int
 | 0 => 0
 | i + 1 => fl s t i
def goR (s : Sta) (t : Int) (i : Nat) : Int := max (fl s t i) 0
def goL (s : Sta) (t : Int) (i : Nat) : Int := max (-(flL s t i)) 0
def oA (s : Sta) (t : Int) (i : Nat) : Int := outA (rd s.ts (i : Int)) (rd s.ms (i : Int)) (goR s t i)
def oB (s : Sta) (t : Int) (i : Nat) : Int := outB (rd s.ts (i : Int)) (rd s.ms (i : Int)) (goR s t i) (goL s t i)
def oAL (s : Sta) (t : Int) : Nat → Int
 | 0 => 0
 | i + 1 => oA s t i
def stM (s : Sta) (t : Int) (i : Nat) : Int := rd s.ms (i : Int) - fl s t i + flL s t i
def stT (s : Sta) (t : Int) (i : Nat) : Int := rd s.ts (i : Int) - oA s t i - oB s t i + oAL s t i + (if i + 1 < s.lv.length then oB s t (i + 1) else 0)
def stepS (s : Sta) (t : Int) : Sta := ⟨s.ro, s.lv, (List.range s.lv.length).map (stM s t), (List.range s.lv.length).map (stT s t), s.bd⟩
theorem pairF_range {sa sb ma mb la lb : Int} (h : FxOk sa sb ma mb la lb) : -(Int.tdiv mb 4) ≤ pairF sa sb ma mb la lb ∧ pairF sa sb ma mb la lb ≤ Int.tdiv ma 4 := by
 have h1 := Int.tdiv_nonneg h.ma.1 (show (0 : Int) ≤ 4 by omega)
 have h2 := Int.tdiv_nonneg h.mb.1 (show (0 : Int) ≤ 4 by omega)
 simp only [pairF, bigMax_max, smallMin_min]
 omega
theorem quarter {m : Int} (h : 0 ≤ m) : 0 ≤ Int.tdiv m 4 ∧ 4 * Int.tdiv m 4 ≤ m := by
 rw [Int.tdiv_eq_ediv_of_nonneg h]
 omega
theorem fl_range {s : Sta} (hs : StF s) (t : Int) (i : Nat) (hi : i < s.lv.length) : 4 * fl s t i ≤ rd s.ms (i : Int) ∧ (i + 1 < s.lv.length → -(rd s.ms ((i + 1 : Nat) : Int)) ≤ 4 * fl s t i) ∧ (¬ i + 1 < s.lv.length → fl s t i = 0) := by
 have hm := hs.mv i hi
 have hq := quarter hm.1
 unfold fl
 split
 ·rename_i h
  have h1 := pairF_range (flux_ok hs h.1)
  have h2 := quarter (hs.mv (i + 1) h.1).1
  rw [fluxS]
  exact ⟨by omega, fun _ => by omega, fun h3 => absurd h.1 h3⟩
 ·exact ⟨by omega, fun h => by have := hs.mv (i + 1) h; omega, fun _ => rfl⟩
theorem go_range {s : Sta} (hs : StF s) (t : Int) (i : Nat) (hi : i < s.lv.length) : 0 ≤ goR s t i ∧ 0 ≤ goL s t i ∧ 4 * goR s t i ≤ rd s.ms (i : Int) ∧ 4 * goL s t i ≤ rd s.ms (i : Int) ∧ goR s t i + goL s t i ≤ rd s.ms (i : Int) := by
 have h1 := fl_range hs t i hi
 have hm := hs.mv i hi
 have h2 : -(rd s.ms (i : Int)) ≤ 4 * flL s t i := by
  cases i with
  | zero => simp only [flL]; omega
  | succ i => exact (fl_range hs t i (by omega)).2.1 hi
 simp only [goR, goL]
 omega
theorem oA_zero (s : Sta) (t : Int) (i : Nat) (h : fl s t i ≤ 0) : oA s t i = 0 := by
 have e : goR s t i = 0 := by rw [goR]; omega
 rw [oA, e, outA]
 split
 ·rfl
 ·rw [Int.mul_zero]; simp
theorem oB_zero (s : Sta) (t : Int) (i : Nat) (h : 0 ≤ flL s t i) : oB s t i = 0 := by
 have e : goL s t i = 0 := by rw [goL]; omega
 rw [oB, e, outB]
 split
 ·rfl
 ·rw [Int.add_zero]; omega
end Go.Proofs.Ytkendhkaheoinaa.U
set_option linter.unusedVariables false
set_option linter.unusedSimpArgs false
namespace Go.Proofs.Ytkendhkaheoinaa.U
open Go.RowKit Go.Lib Go.Proofs.YtkendhkaheoinaaW.PrintWords
def rowOf (n : Nat) (f : Nat → Int) : List Int := (List.range n).map f
theorem rd_rowOf {n i : Nat} (f : Nat → Int) (hi : i < n) : rd (rowOf n f) (i : Int) = f i := by
 rw [rd_nat, List.getD_eq_getElem?_getD, rowOf, List.getElem?_map, List.getElem?_range hi]
 rfl
theorem rowOf_congr {n : Nat} {f g : Nat → Int} (h : ∀ j, j < n → f j = g j) : rowOf n f = rowOf n g := by
 unfold rowOf
 exact List.map_congr_left fun j hj => h j (List.mem_range.1 hj)
theorem rowOf_set (n i : Nat) (f : Nat → Int) (x : Int) : (rowOf n f).set i x = rowOf n (fun j => if j = i then x else f j) := by
 apply List.ext_getElem?
 intro j
 rw [List.getElem?_set, rowOf, rowOf, List.length_map, List.length_range, List.getElem?_map, List.getElem?_map]
 by_cases hj : j < n
 ·rw [List.getElem?_range hj]
  by_cases e : i = j
  ·subst e; simp [hj]
  ·rw [if_neg e]; simp [show ¬ j = i from fun q => e q.symm]
 ·have hn : (List.range n)[j]? = none := List.getElem?_eq_none (by simp; omega)
  rw [hn]
  split
  ·simp; omega
  ·rfl
theorem rowOf_self {l : List Int} {n : Nat} (h : l.length = n) : rowOf n (fun j => rd l (j : Int)) = l := by
 subst h
 apply List.ext_getElem?
 intro j
 rw [rowOf, List.getElem?_map]
 by_cases hj : j < l.length
 ·rw [List.getElem?_range hj, List.getElem?_eq_getElem hj]
  simp [rd_nat, List.getD_eq_getElem?_getD, List.getElem?_eq_getElem hj]
 ·rw [List.getElem?_eq_none (by simp; omega), List.getElem?_eq_none (by omega)]; rfl
theorem rowOf_zero (n : Nat) : List.replicate n (0 : Int) = rowOf n (fun _ => 0) := by
 apply List.ext_getElem?
 intro j
 rw [rowOf, List.getElem?_map, List.getElem?_replicate]
 by_cases hj : j < n
 ·rw [List.getElem?_range hj, if_pos hj]; rfl
 ·rw [List.getElem?_eq_none (by simp; omega), if_neg hj]; rfl
def shf (f : Nat → Int) (i : Nat) (j : Int) (x : Int) (q : Nat) : Int := f q - (if q = i then x else 0) + (if (q : Int) = j then x else 0)
theorem shf_set {n i j : Nat} {f : Nat → Int} {x : Int} (hi : i < n) (hj : j < n) (hne : i ≠ j) :
  (((rowOf n f).set i (rd (rowOf n f) (i : Int) - x)).set j (rd ((rowOf n f).set i (rd (rowOf n f) (i : Int) - x)) (j : Int) + x)) = rowOf n (shf f i (j : Int) x) := by
 rw [rd_rowOf f hi, rowOf_set, rd_rowOf _ hj, rowOf_set]
 refine rowOf_congr fun q hq => ?_
 unfold shf
 by_cases h1 : q = i
 ·subst h1
  have h3 : ¬ ((q : Int) = (j : Int)) := by omega
  simp [hne, h3]
 ·by_cases h2 : q = j
  ·subst h2
   simp [h1]
  ·have h3 : ¬ ((q : Int) = (j : Int)) := by omega
   simp [h1, h2, h3]
theorem shf_zero (f : Nat → Int) (i : Nat) (j : Int) : shf f i j 0 = f := by
 funext q
 unfold shf
 simp
structure StG (s : Sta) : Prop where
 f : StF s
 tv : ∀ i : Nat, i < s.lv.length → 0 ≤ rd s.ts (i : Int) ∧ rd s.ts (i : Int) ≤ 1000 * rd s.ms (i : Int)
 one : 1 ≤ s.lv.length
theorem StG.of {s : Sta} (h : staOk s.ro s.lv s.ms s.ts s.bd = true) : StG s := by
 refine ⟨StF.of h, fun i hi => ?_, ?_⟩
 ·simp only [staOk, hasC, Bool.and_eq_true, decide_eq_true_iff] at h
  obtain ⟨_, ⟨⟨⟨⟨h2, h3⟩, h4⟩, h5⟩, h6⟩, _⟩ := h
  exact (cellsOk_at s.ms s.ts _ 0 h6 i (by omega) (by omega)).2
 ·simp only [staOk, isBal, Bool.and_eq_true] at h
  exact (meshOk_len h.1.1).2.2
theorem oAB_range {s : Sta} (hs : StG s) (t : Int) (i : Nat) (hi : i < s.lv.length) : 0 ≤ oA s t i ∧ 0 ≤ oB s t i ∧ oA s t i + oB s t i ≤ 10000000000 := by
 have hm := hs.f.mv i hi
 have ht := hs.tv i hi
 have hg := go_range hs.f t i hi
 rw [oA, oB, outA, outB]
 split
 ·omega
 ·rename_i h0
  generalize rd s.ms (i : Int) = m at *
  generalize rd s.ts (i : Int) = tr at *
  generalize goR s t i = r at *
  generalize goL s t i = l at *
  have h1 : 0 ≤ tr * r := Int.mul_nonneg ht.1 hg.1
  have h2 : tr * r ≤ tr * (r + l) := Int.mul_le_mul_of_nonneg_left (by omega) ht.1
  have h3 : tr * (r + l) ≤ tr * m := Int.mul_le_mul_of_nonneg_left (by omega) ht.1
  have mp : 0 < m := by omega
  rw [Int.tdiv_eq_ediv_of_nonneg h1, Int.tdiv_eq_ediv_of_nonneg (by omega)]
  have h4 : tr * r / m ≤ tr * (r + l) / m := Int.ediv_le_ediv mp h2
  have h5 : tr * (r + l) / m ≤ tr := by
   have := Int.ediv_le_ediv mp h3
   rwa [Int.mul_ediv_cancel _ (by omega)] at this
  have h6 : 0 ≤ tr * r / m := Int.ediv_nonneg h1 (by omega)
  refine ⟨h6, by omega, by omega⟩
def dlt (a b : Nat → Int) (k j : Nat) : Int := -(if j < k then a j + b j else 0) + (if 0 < j ∧ j ≤ k then a (j - 1) else 0) + (if j + 1 < k then b (j + 1) else 0)
theorem dlt_zero (a b : Nat → Int) : dlt a b 0 = fun _ => 0 := by
 funext j
 unfold dlt
 rw [if_neg (by omega), if_neg (by omega), if_neg (by omega)]
 rfl
theorem dlt_succ (a b : Nat → Int) (k q : Nat) : shf (shf (dlt a b k) k ((k : Int) + 1) (a k)) k ((k : Int) - 1) (b k) q = dlt a b (k + 1) q := by
 unfold shf dlt
 by_cases h1 : q + 1 = k
 ·subst h1
  rw [if_pos (show q < q + 1 by omega), if_neg (show ¬ q + 1 < q + 1 by omega), if_neg (show ¬ q = q + 1 by omega), if_neg (show ¬ ((q : Int) = ((q + 1 : Nat) : Int) + 1) by omega), if_pos (show (q : Int) = ((q + 1 : Nat) : Int) - 1 by omega), if_pos (show q < q + 1 + 1 by omega), if_pos (show q + 1 < q + 1 + 1 by omega)]
  by_cases h0 : 0 < q
  ·rw [if_pos (show 0 < q ∧ q ≤ q + 1 from ⟨h0, by omega⟩), if_pos (show 0 < q ∧ q ≤ q + 1 + 1 from ⟨h0, by omega⟩)]; omega
  ·rw [if_neg (by omega), if_neg (by omega)]; omega
 ·rw [if_neg (show ¬ (q : Int) = (k : Int) - 1 by omega)]
  by_cases h2 : q = k
  ·subst h2
   rw [if_neg (show ¬ q < q by omega), if_pos rfl, if_neg (show ¬ q + 1 < q by omega), if_neg (show ¬ ((q : Int) = (q : Int) + 1) by omega), if_pos rfl, if_pos (show q < q + 1 by omega), if_neg (show ¬ q + 1 < q + 1 by omega)]
   by_cases h0 : 0 < q
   ·rw [if_pos ⟨h0, by omega⟩, if_pos ⟨h0, by omega⟩]; omega
   ·rw [if_neg (by omega), if_neg (by omega)]; omega
  ·rw [if_neg h2, if_neg h2]
   by_cases h3 : q = k + 1
   ·subst h3
    rw [if_neg (show ¬ k + 1 < k by omega), if_neg (show ¬ (0 < k + 1 ∧ k + 1 ≤ k) by omega), if_neg (show ¬ k + 1 + 1 < k by omega), if_pos (show ((k + 1 : Nat) : Int) = (k : Int) + 1 by omega), if_neg (show ¬ k + 1 < k + 1 by omega), if_pos (show 0 < k + 1 ∧ k + 1 ≤ k + 1 by omega), if_neg (show ¬ k + 1 + 1 < k + 1 by omega)]
    simp
   ·rw [if_neg (show ¬ (q : Int) = (k : Int) + 1 by omega)]
    have e1 : (q < k) = (q < k + 1) := by apply propext; omega
    have e2 : (0 < q ∧ q ≤ k) = (0 < q ∧ q ≤ k + 1) := by apply propext; omega
    have e3 : (q + 1 < k) = (q + 1 < k + 1) := by apply propext; omega
    simp only [e1, e2, e3]
    omega
theorem dlt_range {a b : Nat → Int} {n k j : Nat} {B : Int} (hB : 0 ≤ B) (h : ∀ i, i < n → (0 ≤ a i ∧ a i ≤ B) ∧ 0 ≤ b i ∧ b i ≤ B) (hk : k ≤ n) (hj : j < n) : -(2 * B) ≤ dlt a b k j ∧ dlt a b k j ≤ 2 * B := by
 have h1 := h j hj
 unfold dlt
 by_cases c1 : 0 < j ∧ j ≤ k
 ·have h2 := h (j - 1) (by omega)
  rw [if_pos c1]
  by_cases c2 : j + 1 < k
  ·have h3 := h (j + 1) (by omega)
   rw [if_pos c2]
   split <;> omega
  ·rw [if_neg c2]
   split <;> omega
 ·rw [if_neg c1]
  by_cases c2 : j + 1 < k
  ·have h3 := h (j + 1) (by omega)
   rw [if_pos c2]
   split <;> omega
  ·rw [if_neg c2]
   split <;> omega
theorem shf_range {f : Nat → Int} {i : Nat} {j x B C : Int} {q : Nat} (h : -B ≤ f q ∧ f q ≤ B) (hx : 0 ≤ x ∧ x ≤ C) : -(B + C) ≤ shf f i j x q ∧ shf f i j x q ≤ B + C := by
 unfold shf
 split <;> split <;> omega
theorem stM_dlt {s : Sta} (hs : StG s) (t : Int) (j : Nat) (hj : j < s.lv.length) : stM s t j = rd s.ms (j : Int) + dlt (goR s t) (goL s t) s.lv.length j := by
 have hr := fl_range hs.f t j hj
 unfold stM dlt
 rw [if_pos hj]
 have h1 : (if 0 < j ∧ j ≤ s.lv.length then goR s t (j - 1) else 0) = max (flL s t j) 0 := by
  cases j with
  | zero => simp [flL]
  | succ j => rw [if_pos ⟨by omega, by omega⟩]; rfl
 have h2 : (if j + 1 < s.lv.length then goL s t (j + 1) else 0) = max (-(fl s t j)) 0 := by
  split
  ·rfl
  ·rw [hr.2.2 (by assumption)]; rfl
 rw [h1, h2, goR, goL]
 omega
theorem stT_dlt {s : Sta} (t : Int) (j : Nat) (hj : j < s.lv.length) : stT s t j = rd s.ts (j : Int) + dlt (oA s t) (oB s t) s.lv.length j := by
 unfold stT dlt
 rw [if_pos hj]
 have h1 : (if 0 < j ∧ j ≤ s.lv.length then oA s t (j - 1) else 0) = oAL s t j := by
  cases j with
  | zero => simp [oAL]
  | succ j => rw [if_pos ⟨by omega, by omega⟩]; rfl
 rw [h1]
 omega
theorem mem_actTo (l : List Ce) (t : Int) (i : Int) : ∀ j, i ∈ actTo l t j ↔ ∃ k : Nat, k < j ∧ i = (k : Int) ∧ actB t (faceL l k) = true
 | 0 => by simp [actTo]
 | j + 1 => by
  have ih := mem_actTo l t i j
  rw [actTo]
  split
  ·rename_i h
   rw [List.mem_append, ih, List.mem_singleton]
   constructor
   ·rintro (⟨k, h1, h2, h3⟩ | h1)
    ·exact ⟨k, by omega, h2, h3⟩
    ·exact ⟨j, by omega, h1, h⟩
   ·rintro ⟨k, h1, h2, h3⟩
    rcases Nat.lt_or_ge k j with h4 | h4
    ·exact Or.inl ⟨k, h4, h2, h3⟩
    ·exact Or.inr (by rw [h2]; congr 1; omega)
  ·rename_i h
   rw [ih]
   constructor
   ·rintro ⟨k, h1, h2, h3⟩
    exact ⟨k, by omega, h2, h3⟩
   ·rintro ⟨k, h1, h2, h3⟩
    refine ⟨k, ?_, h2, h3⟩
    rcases Nat.lt_or_ge k j with h4 | h4
    ·exact h4
    ·obtain rfl : k = j := by omega
     exact absurd h3 h
def pR (s : Sta) (p : List Int) (j : Nat) : Int := if (j : Int) ∈ p then max (fluxS s j) 0 else 0
def pL (s : Sta) (p : List Int) (j : Nat) : Int := if 0 < j ∧ ((j : Int) - 1) ∈ p then max (-(fluxS s (j - 1))) 0 else 0
theorem pR_nil (s : Sta) : pR s [] = fun _ => 0 := by funext j; simp [pR]
theorem pL_nil (s : Sta) : pL s [] = fun _ => 0 := by funext j; simp [pL]
theorem pR_snoc (s : Sta) (p : List Int) (i q : Nat) : pR s (p ++ [(i : Int)]) q = if q = i then max (fluxS s i) 0 else pR s p q := by
 unfold pR
 by_cases h : q = i
 ·subst h; simp
 ·have h2 : ¬ (q : Int) = (i : Int) := by omega
  simp [h, h2]
theorem pL_snoc (s : Sta) (p : List Int) (i q : Nat) : pL s (p ++ [(i : Int)]) q = if q = i + 1 then max (-(fluxS s i)) 0 else pL s p q := by
 unfold pL
 by_cases h : q = i + 1
 ·subst h
  rw [if_pos rfl, if_pos ⟨by omega, by simp⟩]
  rfl
 ·rw [if_neg h]
  by_cases h0 : 0 < q
  ·have h2 : ¬ (q : Int) - 1 = (i : Int) := by omega
   simp [h0, h2]
  ·simp [h0]
theorem pR_all (s : Sta) (t : Int) (j : Nat) : pR s (actTo s.lv t (s.lv.length - 1)) j = goR s t j := by
 unfold pR goR fl
 by_cases h : j + 1 < s.lv.length ∧ actB t (faceL s.lv j) = true
 ·rw [if_pos h, if_pos ((mem_actTo _ _ _ _).2 ⟨j, by omega, rfl, h.2⟩)]
 ·rw [if_neg h, if_neg]
  ·rfl
  ·intro h2
   obtain ⟨k, h3, h4, h5⟩ := (mem_actTo _ _ _ _).1 h2
   obtain rfl : j = k := by omega
   exact h ⟨by omega, h5⟩
theorem pL_all (s : Sta) (t : Int) (j : Nat) : pL s (actTo s.lv t (s.lv.length - 1)) j = goL s t j := by
 cases j with
 | zero => simp [pL, goL, flL]
 | succ j =>
  unfold pL goL
  rw [flL, fl]
  by_cases h : j + 1 < s.lv.length ∧ actB t (faceL s.lv j) = true
  ·rw [if_pos h, if_pos ⟨by omega, (mem_actTo _ _ _ _).2 ⟨j, by omega, by omega, h.2⟩⟩]
   rfl
  ·rw [if_neg h, if_neg]
   ·rfl
   ·rintro ⟨_, h2⟩
    obtain ⟨k, h3, h4, h5⟩ := (mem_actTo _ _ _ _).1 h2
    obtain rfl : j = k := by omega
    exact h ⟨by omega, h5⟩
end Go.Proofs.Ytkendhkaheoinaa.U
set_option linter.unusedVariables false
set_option linter.unusedSimpArgs false
namespace Go.Proofs.Ytkendhkaheoinaa.U
open Go.RowKit Go.Lib Go.Proofs.YtkendhkaheoinaaW.PrintWords
structure SH (w : World) (base mb tb G H n c1 c2 : Nat) (M T : List Int) : Prop where
 cm : w.cell? ⟨mb, 0, none⟩ = some (.slice (some ⟨G, 0, none⟩) n c1)
 ct : w.cell? ⟨tb, 0, none⟩ = some (.slice (some ⟨H, 0, none⟩) n c2)
 m : OI w base (.slice (some ⟨G, 0, none⟩) n c1) n M
 t : OI w base (.slice (some ⟨H, 0, none⟩) n c2) n T
 ne : G ≠ H ∧ mb ≠ G ∧ mb ≠ H ∧ tb ≠ G ∧ tb ≠ H
section
variable {w : World} {base mb tb G H n c1 c2 : Nat} {M T : List Int}
theorem cell_off {w : World} {g i b : Nat} {u v : Value} (h : w.cell? ⟨b, 0, none⟩ = some v) (hne : b ≠ g) : (w.setCell ⟨g, i, none⟩ u).cell? ⟨b, 0, none⟩ = some v := by
 rw [World.cell?_of_block (Below.heap_setCell w ⟨g, i, none⟩ u b (fun e => hne (by simpa using e)))]
 exact h
theorem oi_off {w : World} {base n g i c b : Nat} {u : Value} {l : List Int} (h : OI w base (.slice (some ⟨b, 0, none⟩) n c) n l) (hne : b ≠ g) : OI (w.setCell ⟨g, i, none⟩ u) base (.slice (some ⟨b, 0, none⟩) n c) n l :=
 ⟨own_move h.out fun q hq => Below.heap_setCell w ⟨g, i, none⟩ u q (fun e => by simp [Value.ownBlock] at hq; simp at e; omega)⟩
theorem SH.setM (h : SH w base mb tb G H n c1 c2 M T) (i : Nat) (x : Int) : SH (w.setCell ⟨G, i, none⟩ (.int .i64 x)) base mb tb G H n c1 c2 (M.set i x) T :=
 ⟨cell_off h.cm h.ne.2.1, cell_off h.ct h.ne.2.2.2.1, oi_store h.m i x, oi_off h.t (fun e => h.ne.1 e.symm), h.ne⟩
theorem SH.setT (h : SH w base mb tb G H n c1 c2 M T) (i : Nat) (x : Int) : SH (w.setCell ⟨H, i, none⟩ (.int .i64 x)) base mb tb G H n c1 c2 M (T.set i x) :=
 ⟨cell_off h.cm h.ne.2.2.1, cell_off h.ct h.ne.2.2.2.2, oi_off h.m h.ne.1, oi_store h.t i x, h.ne⟩
end
structure Sh2 (w w' : World) (G H : Nat) : Prop where
 os : w'.os = w.os
 tape : w'.tape = w.tape
 output : w'.output = w.output
 size : w'.heap.size = w.heap.size
 block : ∀ b, b ≠ G → b ≠ H → w'.heap[b]? = w.heap[b]?
theorem Sh2.refl (w : World) (G H : Nat) : Sh2 w w G H := ⟨rfl, rfl, rfl, rfl, fun _ _ _ => rfl⟩
theorem Sh2.set {w w' : World} {G H : Nat} (h : Sh2 w w' G H) (g i : Nat) (u : Value) (hg : g = G ∨ g = H) : Sh2 w (w'.setCell ⟨g, i, none⟩ u) G H :=
 ⟨h.os, h.tape, h.output, by rw [← h.size]; simp [World.setCell], fun b h1 h2 => (Below.heap_setCell w' ⟨g, i, none⟩ u b (fun e => by simp at e; omega)).trans (h.block b h1 h2)⟩
set_option maxHeartbeats 4000000 in
set_option maxRecDepth 100000 in
theorem move_shift {w : World} {base mb tb G H n c1 c2 : Nat} {M T : List Int} (h0 : SH w base mb tb G H n c1 c2 M T) (i j : Nat) (m t : Int) (hi : i < n) (hj : j < n) (hm : 0 < m)
  (hw1 : ∀ a, rd M (i : Int) = a → IntKind.i64.wrap (a - m) = a - m) (hw2 : ∀ a, rd (M.set i (rd M (i : Int) - m)) (j : Int) = a → IntKind.i64.wrap (a + m) = a + m) (hw3 : ∀ a, rd T (i : Int) = a → IntKind.i64.wrap (a - t) = a - t) (hw4 : ∀ a, rd (T.set i (rd T (i : Int) - t)) (j : Int) = a → IntKind.i64.wrap (a + t) = a + t) :
  Calls Try.prog 61 #[.int .i64 i, .int .i64 j, .int .i64 m, .int .i64 t, .pointer (some ⟨mb, 0, none⟩), .pointer (some ⟨tb, 0, none⟩)] w fun e w' => ∃ u, e = .returned u ∧ SH w' base mb tb G H n c1 c2 ((M.set i (rd M (i : Int) - m)).set j (rd (M.set i (rd M (i : Int) - m)) (j : Int) + m)) ((T.set i (rd T (i : Int) - t)).set j (rd (T.set i (rd T (i : Int) - t)) (j : Int) + t)) ∧ Sh2 w w' G H := by
 have t1 : decide (m > 0) = true := decide_eq_true hm
 have t2 : decide (0 < m) = true := decide_eq_true hm
 have i0 : (0 : Int) ≤ (i : Int) := by omega
 have i1 : (i : Int) < (n : Int) := by omega
 have j0 : (0 : Int) ≤ (j : Int) := by omega
 have j1 : (j : Int) < (n : Int) := by omega
 have HW := hid (And.intro hw1 (And.intro hw2 (And.intro hw3 hw4)))
 clear hw1 hw2 hw3 hw4
 have cm := h0.cm
 have ct := h0.ct
 obtain ⟨x1, f1⟩ := oi_cell h0.m i hi
 have e1 := HW.out.1 _ rfl
 go_enter Try.func61, Try.ntmps61
 go_upto_region 2 with fail
 have z0 := Sh2.refl w G H
 have h1 := h0.setM i (rd M (i : Int) - m)
 have z1 := z0.set G i (.int .i64 (rd M (i : Int) - m)) (by simp)
 clear cm ct x1 f1 e1
 generalize (w.setCell ⟨G, i, none⟩ (.int .i64 (rd M (i : Int) - m))) = w1 at *
 have cm := h1.cm
 have ct := h1.ct
 obtain ⟨x1, f1⟩ := oi_cell h1.m j hj
 have e1 := HW.out.2.1 _ rfl
 go_upto_region 3 with fail
 have h2 := h1.setM j (rd (M.set i (rd M (i : Int) - m)) (j : Int) + m)
 have z2 := z1.set G j (.int .i64 (rd (M.set i (rd M (i : Int) - m)) (j : Int) + m)) (by simp)
 clear cm ct x1 f1 e1
 generalize (w1.setCell ⟨G, j, none⟩ (.int .i64 (rd (M.set i (rd M (i : Int) - m)) (j : Int) + m))) = w2 at *
 have cm := h2.cm
 have ct := h2.ct
 obtain ⟨x1, f1⟩ := oi_cell h2.t i hi
 have e1 := HW.out.2.2.1 _ rfl
 go_upto_region 4 with fail
 have h3 := h2.setT i (rd T (i : Int) - t)
 have z3 := z2.set H i (.int .i64 (rd T (i : Int) - t)) (by simp)
 clear cm ct x1 f1 e1
 generalize (w2.setCell ⟨H, i, none⟩ (.int .i64 (rd T (i : Int) - t))) = w3 at *
 have cm := h3.cm
 have ct := h3.ct
 obtain ⟨x1, f1⟩ := oi_cell h3.t j hj
 have e1 := HW.out.2.2.2 _ rfl
 go_wp2
 have h4 := h3.setT j (rd (T.set i (rd T (i : Int) - t)) (j : Int) + t)
 have z4 := z3.set H j (.int .i64 (rd (T.set i (rd T (i : Int) - t)) (j : Int) + t)) (by simp)
 exact bodyPost_end (v := .tuple #[]) (by simp [results, Try.results61, go_sem]) rfl ⟨_, rfl, h4, z4⟩
theorem move_shift0 (w : World) (i j m t : Int) (p q : Value) (hm : m ≤ 0) :
  Calls Try.prog 61 #[.int .i64 i, .int .i64 j, .int .i64 m, .int .i64 t, p, q] w fun e w' => ∃ u, e = .returned u ∧ w = w' := by
 have t1 : decide (m > 0) = false := decide_eq_false (by omega)
 have t2 : decide (0 < m) = false := decide_eq_false (by omega)
 go_enter Try.func61, Try.ntmps61
 go_wp2
 exact bodyPost_end (v := .tuple #[]) (by simp [results, Try.results61, go_sem]) rfl ⟨_, rfl, rfl⟩
end Go.Proofs.Ytkendhkaheoinaa.U
set_option linter.unusedVariables false
set_option linter.unusedSimpArgs false
namespace Go.Proofs.Ytkendhkaheoinaa.U
open Go.RowKit Go.Lib Go.Proofs.YtkendhkaheoinaaW.PrintWords
open Go.Proofs.YtkendhkaheoinaaW.PrintLast Go.Proofs.YtkendhkaheoinaaW.PrintMore
def move0T : Bool × List (List Nat × List Nat) := (true, [([], []), ([0], [0]), ([1], [1]), ([2], [2]), ([3], [3]), ([4, 4], [4]), ([], []), ([6], [6]), ([7], [7]), ([8], [8]), ([9], [9]), ([10, 10], [10]), ([5, 0, 1, 2, 3, 4, 5], [5]), ([11, 12, 0, 1, 2, 3, 4, 5, 6, 7, 8, 9, 10, 11, 12], [11])])
def move0B : List Nat := [0, 1, 3, 7, 15, 31, 0, 64, 192, 448, 960, 1984, 63, 8191]
theorem move0tab : rtab .any (opsOf Try.f27 0) = move0T := by kernel_rfl
theorem move0bits : waitsOk move0T.2 move0B = true := by kernel_rfl
def move9T : Bool × List (List Nat × List Nat) := (true, [([], []), ([0], [0]), ([1], [1]), ([2], [2]), ([3], [3]), ([4, 4], [4]), ([], []), ([6], [6]), ([7], [7]), ([8], [8]), ([9], [9]), ([10, 10], [10]), ([], []), ([], []), ([12, 5, 0, 1, 2, 3, 4, 5, 12, 13], [5, 12]), ([13, 11, 14, 0, 1, 2, 3, 4, 5, 6, 7, 8, 9, 10, 11, 12, 13, 14], [11, 13])])
def move9B : List Nat := [0, 1, 3, 7, 15, 31, 0, 64, 192, 448, 960, 1984, 0, 0, 12351, 32767]
theorem move9tab : rtab .any (opsOf Try.f27 9) = move9T := by kernel_rfl
theorem move9bits : waitsOk move9T.2 move9B = true := by kernel_rfl
section
variable {P : Program} {ops : Array Oper} {o : Oper} {a : Act} {Q : Exit → Act → World → Prop} {Kc : Act → World → Prop}
theorem mkN_step {W : World} {n : Nat} (hn : n ≤ 9223372036854775807) (hw : Region.wanted o (yielded ops a.tmps) = true) {N : Tmp} (_hd : o.dst = some N)
  (hrun : (execOp a.eval o).run P W = .ok (.value (.slice (some ⟨W.heap.size, 0, none⟩) n n)) (W.alloc (.cells (madeCells #[.int .i64 0] n) 3)))
  (h : ∀ X y w1, FO w1 W.heap.size 3 1 (.slice X n y) n (rowOf n (fun _ => 0)) → Bw W w1 → Kc (a.put o.dst (.slice X n y)) w1) : if Region.wanted o (yielded ops a.tmps) = true then Oper.wp P o a W Kc Q else Kc (a.put o.dst undef) W :=
 event_step hw hrun (h _ _ _ ⟨by rw [← rowOf_zero]; exact own_made W W.heap.size 3 .i64 n (Nat.le_refl _) hn⟩ ((Bw.refl W).alloc _))
end
theorem make_n (n : Nat) (hn : n ≤ 1000000) : ∀ W : World, (Instr.makeSlice 27 (.int .i64 (n : Int)) (.int .i64 (n : Int))).run Try.prog W = .ok (.slice (some ⟨W.heap.size, 0, none⟩) n n) (W.alloc (.cells (madeCells #[.int .i64 0] n) 3)) := fun W => by
 have h := make_st (P := Try.prog) 27 3 (.int .i64 0) 1 8 Try.underlying27 info_int n (by omega) (by omega) W
 rw [h, Nat.mul_one]
 rfl
theorem move_shiftC {w : World} {base mb tb G H n c1 c2 : Nat} {f g : Nat → Int} (h0 : SH w base mb tb G H n c1 c2 (rowOf n f) (rowOf n g)) (i : Nat) (j m t : Int) (hi : i < n) (hm : 0 ≤ m ∧ m ≤ 1000000000000) (ht : 0 ≤ t ∧ t ≤ 1000000000000)
  (hj : 0 < m → 0 ≤ j ∧ j < n ∧ j ≠ i) (hz : m = 0 → t = 0) (hf : ∀ q, q < n → -1000000000000 ≤ f q ∧ f q ≤ 1000000000000) (hg : ∀ q, q < n → -1000000000000 ≤ g q ∧ g q ≤ 1000000000000) :
  Calls Try.prog 61 #[.int .i64 i, .int .i64 j, .int .i64 m, .int .i64 t, .pointer (some ⟨mb, 0, none⟩), .pointer (some ⟨tb, 0, none⟩)] w fun e w' => ∃ u, e = .returned u ∧ SH w' base mb tb G H n c1 c2 (rowOf n (shf f i j m)) (rowOf n (shf g i j t)) ∧ Sh2 w w' G H := by
 by_cases h1 : m = 0
 ·have h2 := hz h1
  subst h1 h2
  refine (move_shift0 w _ _ _ _ _ _ (by omega)).mono ?_
  rintro e w' ⟨u, rfl, rfl⟩
  refine ⟨u, rfl, ?_, Sh2.refl _ _ _⟩
  rw [shf_zero, shf_zero]
  exact h0
 ·obtain ⟨h2, h3, h4⟩ := hj (by omega)
  obtain ⟨k, rfl⟩ : ∃ k : Nat, j = (k : Int) := ⟨j.toNat, by omega⟩
  have hk : k < n := by omega
  have hne : i ≠ k := by omega
  have a1 := hf i hi
  have a2 := hf k hk
  have a3 := hg i hi
  have a4 := hg k hk
  have r1 : rd ((rowOf n f).set i (rd (rowOf n f) (i : Int) - m)) (k : Int) = f k := by rw [rowOf_set, rd_rowOf _ hk, if_neg (fun e => hne e.symm)]
  have r2 : rd ((rowOf n g).set i (rd (rowOf n g) (i : Int) - t)) (k : Int) = g k := by rw [rowOf_set, rd_rowOf _ hk, if_neg (fun e => hne e.symm)]
  refine (move_shift h0 i k m t hi hk (by omega) (fun a ha => by rw [rd_rowOf f hi] at ha; exact i64w (by omega) (by omega)) (fun a ha => by rw [r1] at ha; exact i64w (by omega) (by omega)) (fun a ha => by rw [rd_rowOf g hi] at ha; exact i64w (by omega) (by omega)) (fun a ha => by rw [r2] at ha; exact i64w (by omega) (by omega))).mono ?_
  rintro e w' ⟨u, rfl, h5, h6⟩
  refine ⟨u, rfl, ?_, h6⟩
  rw [shf_set hi hk hne, shf_set hi hk hne] at h5
  exact h5
theorem SH.to {w w' : World} {base mb tb G H n c1 c2 : Nat} {M T : List Int} (h : SH w base mb tb G H n c1 c2 M T) (b : Bw w w') : SH w' base mb tb G H n c1 c2 M T := ⟨pw_cell_below b.out h.cm, pw_cell_below b.out h.ct, h.m.to b, h.t.to b, h.ne⟩
theorem oi_sh2 {w w' : World} {base n c b G H : Nat} {l : List Int} (h : OI w base (.slice (some ⟨b, 0, none⟩) n c) n l) (z : Sh2 w w' G H) (h1 : b ≠ G) (h2 : b ≠ H) : OI w' base (.slice (some ⟨b, 0, none⟩) n c) n l := ⟨own_move h.out fun q hq => by
 have e : b = q := by simpa [Value.ownBlock] using hq
 exact z.block q (by omega) (by omega)⟩
theorem Sh2.bw {W w w' : World} {G H : Nat} (z : Sh2 w w' G H) (b : Bw W w) (hG : W.heap.size ≤ G) (hH : W.heap.size ≤ H) : Bw W w' := ⟨⟨z.os.trans b.out.os, z.tape.trans b.out.tape, z.output.trans b.out.output, by rw [z.size]; exact b.out.size, fun k hk => (z.block k (by omega) (by omega)).trans (b.out.block k hk)⟩⟩
theorem Sh2.cell {w w' : World} {G H : Nat} (z : Sh2 w w' G H) {p : Addr} {v : Value} (h : w.cell? p = some v) (h1 : p.block ≠ G) (h2 : p.block ≠ H) : w'.cell? p = some v := by
 rw [World.cell?_of_block (z.block p.block h1 h2)]
 exact h
theorem cell_offp {w : World} {g i : Nat} {p : Addr} {u v : Value} (h : w.cell? p = some v) (hne : p.block ≠ g) : (w.setCell ⟨g, i, none⟩ u).cell? p = some v := by
 rw [World.cell?_of_block (Below.heap_setCell w ⟨g, i, none⟩ u p.block (fun e => hne (by simpa using e)))]
 exact h
def mixf (f g : Nat → Int) (k j : Nat) : Int := if j < k then f j else g j
theorem mixf_zero (f g : Nat → Int) : mixf f g 0 = g := by funext j; simp [mixf]
theorem mixf_self (f g : Nat → Int) (k : Nat) : mixf f g k k = g k := if_neg (by omega)
theorem mixf_all {j n : Nat} (f g : Nat → Int) (h : j < n) : mixf f g n j = f j := if_pos h
theorem mixf_step (f g : Nat → Int) (n k : Nat) (x : Int) (h : x = f k) : (rowOf n (mixf f g k)).set k x = rowOf n (mixf f g (k + 1)) := by
 rw [rowOf_set]
 refine rowOf_congr fun j hj => ?_
 unfold mixf
 by_cases e : j = k
 ·subst e; rw [if_pos rfl, if_pos (by omega), h]
 ·rw [if_neg e]
  by_cases e2 : j < k
  ·rw [if_pos e2, if_pos (by omega)]
  ·rw [if_neg e2, if_neg (by omega)]
theorem Sh2.dr {w w' : World} {G H : Nat} (z : Sh2 w w' G H) : Sh2 w w'.drew G H := ⟨by rw [← z.os]; rfl, by rw [← z.tape]; rfl, by rw [← z.output]; rfl, by rw [← z.size]; rfl, fun b h1 h2 => (z.block b h1 h2)⟩
theorem faces_pos {n : Nat} {s : Sta} {p : List Int} {i : Nat} (h : 0 < fluxS s i) : (rowOf n (pR s p)).set i (fluxS s i) = rowOf n (pR s (p ++ [(i : Int)])) ∧ rowOf n (pL s p) = rowOf n (pL s (p ++ [(i : Int)])) := by
 refine ⟨?_, rowOf_congr fun q hq => ?_⟩
 ·rw [rowOf_set]
  refine rowOf_congr fun q hq => ?_
  rw [pR_snoc]
  split
  ·omega
  ·rfl
 ·rw [pL_snoc]
  split
  ·rename_i e
   subst e
   unfold pL
   rw [show i + 1 - 1 = i by omega]
   split <;> omega
  ·rfl
theorem faces_neg {n : Nat} {s : Sta} {p : List Int} {i : Nat} (h : ¬ 0 < fluxS s i) : rowOf n (pR s p) = rowOf n (pR s (p ++ [(i : Int)])) ∧ (rowOf n (pL s p)).set (i + 1) (-(fluxS s i)) = rowOf n (pL s (p ++ [(i : Int)])) := by
 refine ⟨rowOf_congr fun q hq => ?_, ?_⟩
 ·rw [pR_snoc]
  split
  ·rename_i e
   subst e
   unfold pR
   split <;> omega
  ·rfl
 ·rw [rowOf_set]
  refine rowOf_congr fun q hq => ?_
  rw [pL_snoc]
  split
  ·omega
  ·rfl
set_option maxHeartbeats 8000000 in
set_option maxRecDepth 100000 in
theorem impl_move (P lo hi : Nat) (s : Sta) (t : Int) (n gm gt cl cm ct cb : Nat) (Al Ab F : Option Addr) (nf cf : Nat) (fs : List Int) (w : World) (hP : w.heap[P]? = some (.cells #[.int .i64 s.ro, .slice Al n cl, .slice (some ⟨gm, 0, none⟩) n cm, .slice (some ⟨gt, 0, none⟩) n ct, .slice Ab s.bd.length cb] 29 (0, 0))) (hs : StG s) (hn : s.lv.length = n)
  (rl : IdR w Al n s.lv) (om : OI w lo (.slice (some ⟨gm, 0, none⟩) n cm) n s.ms) (ot : OI w lo (.slice (some ⟨gt, 0, none⟩) n ct) n s.ts) (rb : RI w Ab s.bd.length s.bd) (hgm : lo ≤ gm ∧ gm < hi) (hgt : lo ≤ gt ∧ gt < hi) (hne : gm ≠ gt) (hhi : hi ≤ w.heap.size) (rf : RI w F nf fs) (hfs : fs = actTo s.lv t (s.lv.length - 1)) :
  Calls Try.prog 27 #[.pointer (some ⟨P, 0, none⟩), .slice F nf cf] w fun e w' => ∃ u, e = .returned u ∧ ∃ w3, Bw w w3 ∧ Sh2 w3 w' gm gt ∧ OI w' lo (.slice (some ⟨gm, 0, none⟩) n cm) n (rowOf n (stM s t)) ∧ OI w' lo (.slice (some ⟨gt, 0, none⟩) n ct) n (rowOf n (stT s t)) := by
 have HKM := hid (make_n n (by have := hs.f.n; omega))
 have hN63 := hid (show n ≤ 9223372036854775807 by have := hs.f.n; omega)
 have hmxn : n ≤ 128 := by have := hs.f.n; omega
 have HP0 := hid hP
 have HFS := hid hfs
 have HN := hid hn
 have HX0 := hid (show StR w (.agg #[.int .i64 s.ro, .slice Al n cl, .slice (some ⟨gm, 0, none⟩) n cm, .slice (some ⟨gt, 0, none⟩) n ct, .slice Ab s.bd.length cb]) s from ⟨Al, cl, some ⟨gm, 0, none⟩, cm, some ⟨gt, 0, none⟩, ct, Ab, cb, by rw [hn, hs.f.ms, hs.f.ts, hn], by rw [hn]; exact rl, by rw [hs.f.ms, hn]; exact om.ri, by rw [hs.f.ts, hn]; exact ot.ri, rb⟩)
 have HO0 := hid (And.intro om ot)
 have HG := hid (And.intro hgm (And.intro hgt (And.intro hne hhi)))
 have k0 := (blk_cell hP 0).trans (show _ = some (Value.int .i64 s.ro) from rfl)
 clear hP hfs hn rl om ot rb hgm hgt hne hhi k0
 go_enter Try.func27, Try.ntmps27
 go_upto_region 0 with fail
 generalize hW1 : w = W1 at *
 have HP1 := HP0
 have BW := Aside0.mk (Bw.refl W1)
 have HT_ := Aside0.mk move0tab
 have HW_ := Aside0.mk move0bits
 refine start_ (n := 14) (S := fun w' => True) (ds := []) #[false, false, false, false, false, false, false, false, false, false, false, false, false, false] (by kernel_rfl) rfl rfl trivial (fun hHeld => ?_)
 refine pq_ (i := 0) (N := some 16) (v := ?_) (a' := ?_) rfl rfl (by kernel_rfl) (fun _ _ _ h => h) (Or.inl ⟨by rfl, ?_⟩) ?_ ?_
 rotate_left; (intro w'; go_simp; with_reducible rfl); rotate_left; (simp only [Act.put, s1_, s2_, s3_, i64_w, i32_w]; rfl)
 refine pq_ (i := 1) (N := some 17) (v := ?_) (a' := ?_) rfl rfl (by kernel_rfl) (fun _ _ _ h => h) (Or.inl ⟨by rfl, ?_⟩) ?_ ?_
 rotate_left; (intro w'; go_simp; with_reducible rfl); rotate_left; (simp only [Act.put, s1_, s2_, s3_, i64_w, i32_w]; rfl)
 refine pq_ (i := 2) (N := some 18) (v := ?_) (a' := ?_) rfl rfl (by kernel_rfl) (fun _ _ _ h => h) (Or.inl ⟨by rfl, ?_⟩) ?_ ?_
 rotate_left; (intro w'; go_simp; with_reducible rfl); rotate_left; (simp only [Act.put, s1_, s2_, s3_, i64_w, i32_w]; rfl)
 refine pq_ (i := 6) (N := some 22) (v := ?_) (a' := ?_) rfl rfl (by kernel_rfl) (fun _ _ _ h => h) (Or.inl ⟨by rfl, ?_⟩) ?_ ?_
 rotate_left; (intro w'; go_simp; with_reducible rfl); rotate_left; (simp only [Act.put, s1_, s2_, s3_, i64_w, i32_w]; rfl)
 refine pq_ (i := 7) (N := some 23) (v := ?_) (a' := ?_) rfl rfl (by kernel_rfl) (fun _ _ _ h => h) (Or.inl ⟨by rfl, ?_⟩) ?_ ?_
 rotate_left; (intro w'; go_simp; with_reducible rfl); rotate_left; (simp only [Act.put, s1_, s2_, s3_, i64_w, i32_w]; rfl)
 refine pq_ (i := 8) (N := some 24) (v := ?_) (a' := ?_) rfl rfl (by kernel_rfl) (fun _ _ _ h => h) (Or.inl ⟨by rfl, ?_⟩) ?_ ?_
 rotate_left; (intro w'; go_simp; with_reducible rfl); rotate_left; (simp only [Act.put, s1_, s2_, s3_, i64_w, i32_w]; rfl)
 refine inv_at [3, 4, 5, 9, 10, 11, 12, 13] (fun a0_ b a w' => ∃ (κ : Nat → Nat) (z5 : Value) (z11 : Value) (m12_ : Value) (m13_ : Value), a = putSel a0_ b [(3, 19, .slice (some ⟨gm, 0, none⟩) n cm), (4, 20, .int .i64 (n : Int)), (5, 21, z5), (9, 25, .slice (some ⟨gm, 0, none⟩) n cm), (10, 26, .int .i64 (n : Int)), (11, 27, z11), (12, 4, m12_), (13, 5, m13_)] ∧ (Bw W1 w') ∧ (b 5 = true → Cn w' W1.heap.size κ 0 3 1 z5 n (rowOf n (fun _ => 0))) ∧ (b 11 = true → Cn w' W1.heap.size κ 1 3 1 z11 n (rowOf n (fun _ => 0))) ∧ (b 12 = true → (m12_ : Value) = z5) ∧ (b 13 = true → (m13_ : Value) = z11)) HT_.out HW_.out (by kernel_rfl) (by kernel_rfl) ?_ ?_ ?_
 ·exact ⟨fun _ => 0, .slice none 0 0, .slice none 0 0, .bool false, .bool false, by simp only [putSel, Bool.false_eq_true, if_false], BW.out.trans (Bw.drawn ⟨⟨1, rfl⟩⟩), fun h_ => absurd h_ (by decide), fun h_ => absurd h_ (by decide), fun h_ => absurd h_ (by decide), fun h_ => absurd h_ (by decide)⟩
 ·skip
  clear BW
  refine steps_cons ?_ ?_
  ·rintro b a w' ⟨κ, z5, z11, m12_, m13_, ha, Q_BW, Q_R5, Q_R11, Q_X12_, Q_X13_⟩ hb_ hon hoff
   refine ⟨_, rfl, fun K hK => ?_⟩
   have e18 : a.tmps[18]? = some (.pointer (some ⟨P, 2, none⟩)) := by rw [ha]; exact (putSel_off rfl).trans rfl
   replace ha := Aside0.mk ha
   have BW := Aside0.mk Q_BW
   have hc_ := (blk_cell ((BW.out.out.block _ (blk_lt HP1.out)).trans HP1.out) 2).trans (show _ = some (Value.slice (some ⟨gm, 0, none⟩) n cm) from rfl)
   refine value_ (w1 := w') (v := .slice (some ⟨gm, 0, none⟩) n cm) (by rfl) rfl ?_ ?_
   ·go_simp
    (try simp only [i64_w])
    try rfl
   refine hK.out _ _ ⟨κ, z5, z11, m12_, m13_, (by rw [ha.out]; exact putSel_upk 0 hb_ rfl rfl rfl), Q_BW, fun h0_ => absurd ((hoff 5 (by kernel_rfl)).symm.trans h0_) (by decide), Q_R11, fun h0_ => absurd ((hoff 12 (by kernel_rfl)).symm.trans h0_) (by decide), fun h0_ => absurd ((hoff 13 (by kernel_rfl)).symm.trans h0_) (by decide)⟩
  refine steps_cons ?_ ?_
  ·rintro b a w' ⟨κ, z5, z11, m12_, m13_, ha, Q_BW, Q_R5, Q_R11, Q_X12_, Q_X13_⟩ hb_ hon hoff
   refine ⟨_, rfl, fun K hK => ?_⟩
   have e19 : a.tmps[19]? = some (.slice (some ⟨gm, 0, none⟩) n cm) := by rw [ha]; exact putSel_on (e := (3, 19, .slice (some ⟨gm, 0, none⟩) n cm)) 0 rfl rfl (hon 3 (by kernel_rfl)) rfl
   replace ha := Aside0.mk ha
   have BW := Aside0.mk Q_BW
   refine value_ (w1 := w') (v := .int .i64 (n : Int)) (by rfl) rfl ?_ ?_
   ·go_simp
    (try simp only [i64_w])
    try rfl
   refine hK.out _ _ ⟨κ, z5, z11, m12_, m13_, (by rw [ha.out]; exact putSel_upk 1 hb_ rfl rfl rfl), Q_BW, fun h0_ => absurd ((hoff 5 (by kernel_rfl)).symm.trans h0_) (by decide), Q_R11, fun h0_ => absurd ((hoff 12 (by kernel_rfl)).symm.trans h0_) (by decide), fun h0_ => absurd ((hoff 13 (by kernel_rfl)).symm.trans h0_) (by decide)⟩
  refine steps_cons ?_ ?_
  ·rintro b a w' ⟨κ, z5, z11, m12_, m13_, ha, Q_BW, Q_R5, Q_R11, Q_X12_, Q_X13_⟩ hb_ hon hoff
   refine ⟨_, rfl, fun K hK => ?_⟩
   have e20 : a.tmps[20]? = some (.int .i64 (n : Int)) := by rw [ha]; exact putSel_on (e := (4, 20, .int .i64 (n : Int))) 1 rfl rfl (hon 4 (by kernel_rfl)) rfl
   replace ha := Aside0.mk ha
   have BW := Aside0.mk Q_BW
   have hsz : W1.heap.size ≤ w'.heap.size := BW.out.size
   have hkm := HKM.out
   refine mkN_step (n := n) hN63.out (N := 21) ?hg ?hd ?hr ?_; (case hd => rfl); (case hg => rfl); (case hr => first | (go_simp; done) | (go_simp; rfl))
   intro XL yL wL oL bL
   refine hK.out _ _ ⟨(paint κ w'.heap.size 0), (.slice XL n yL), z11, m12_, m13_, (by rw [ha.out]; exact putSel_upk 2 hb_ rfl rfl rfl), BW.out.trans bL, fun _ => oL.cn hsz, fun h0_ => (Q_R11 h0_).to bL 0, fun h0_ => absurd ((hoff 12 (by kernel_rfl)).symm.trans h0_) (by decide), fun h0_ => absurd ((hoff 13 (by kernel_rfl)).symm.trans h0_) (by decide)⟩
  refine steps_cons ?_ ?_
  ·rintro b a w' ⟨κ, z5, z11, m12_, m13_, ha, Q_BW, Q_R5, Q_R11, Q_X12_, Q_X13_⟩ hb_ hon hoff
   refine ⟨_, rfl, fun K hK => ?_⟩
   have e24 : a.tmps[24]? = some (.pointer (some ⟨P, 2, none⟩)) := by rw [ha]; exact (putSel_off rfl).trans rfl
   replace ha := Aside0.mk ha
   have BW := Aside0.mk Q_BW
   have hc_ := (blk_cell ((BW.out.out.block _ (blk_lt HP1.out)).trans HP1.out) 2).trans (show _ = some (Value.slice (some ⟨gm, 0, none⟩) n cm) from rfl)
   refine value_ (w1 := w') (v := .slice (some ⟨gm, 0, none⟩) n cm) (by rfl) rfl ?_ ?_
   ·go_simp
    (try simp only [i64_w])
    try rfl
   refine hK.out _ _ ⟨κ, z5, z11, m12_, m13_, (by rw [ha.out]; exact putSel_upk 3 hb_ rfl rfl rfl), Q_BW, Q_R5, fun h0_ => absurd ((hoff 11 (by kernel_rfl)).symm.trans h0_) (by decide), Q_X12_, fun h0_ => absurd ((hoff 13 (by kernel_rfl)).symm.trans h0_) (by decide)⟩
  refine steps_cons ?_ ?_
  ·rintro b a w' ⟨κ, z5, z11, m12_, m13_, ha, Q_BW, Q_R5, Q_R11, Q_X12_, Q_X13_⟩ hb_ hon hoff
   refine ⟨_, rfl, fun K hK => ?_⟩
   have e25 : a.tmps[25]? = some (.slice (some ⟨gm, 0, none⟩) n cm) := by rw [ha]; exact putSel_on (e := (9, 25, .slice (some ⟨gm, 0, none⟩) n cm)) 3 rfl rfl (hon 9 (by kernel_rfl)) rfl
   replace ha := Aside0.mk ha
   have BW := Aside0.mk Q_BW
   refine value_ (w1 := w') (v := .int .i64 (n : Int)) (by rfl) rfl ?_ ?_
   ·go_simp
    (try simp only [i64_w])
    try rfl
   refine hK.out _ _ ⟨κ, z5, z11, m12_, m13_, (by rw [ha.out]; exact putSel_upk 4 hb_ rfl rfl rfl), Q_BW, Q_R5, fun h0_ => absurd ((hoff 11 (by kernel_rfl)).symm.trans h0_) (by decide), Q_X12_, fun h0_ => absurd ((hoff 13 (by kernel_rfl)).symm.trans h0_) (by decide)⟩
  refine steps_cons ?_ ?_
  ·rintro b a w' ⟨κ, z5, z11, m12_, m13_, ha, Q_BW, Q_R5, Q_R11, Q_X12_, Q_X13_⟩ hb_ hon hoff
   refine ⟨_, rfl, fun K hK => ?_⟩
   have e26 : a.tmps[26]? = some (.int .i64 (n : Int)) := by rw [ha]; exact putSel_on (e := (10, 26, .int .i64 (n : Int))) 4 rfl rfl (hon 10 (by kernel_rfl)) rfl
   replace ha := Aside0.mk ha
   have BW := Aside0.mk Q_BW
   have hsz : W1.heap.size ≤ w'.heap.size := BW.out.size
   have hkm := HKM.out
   refine mkN_step (n := n) hN63.out (N := 27) ?hg ?hd ?hr ?_; (case hd => rfl); (case hg => rfl); (case hr => first | (go_simp; done) | (go_simp; rfl))
   intro XL yL wL oL bL
   refine hK.out _ _ ⟨(paint κ w'.heap.size 1), z5, (.slice XL n yL), m12_, m13_, (by rw [ha.out]; exact putSel_upk 5 hb_ rfl rfl rfl), BW.out.trans bL, fun h0_ => (Q_R5 h0_).to bL 1, fun _ => oL.cn hsz, Q_X12_, fun h0_ => absurd ((hoff 13 (by kernel_rfl)).symm.trans h0_) (by decide)⟩
  refine steps_cons ?_ ?_
  ·rintro b a w' ⟨κ, z5, z11, m12_, m13_, ha, Q_BW, Q_R5, Q_R11, Q_X12_, Q_X13_⟩ hb_ hon hoff
   refine ⟨_, rfl, fun K hK => ?_⟩
   have e21 : a.tmps[21]? = some (z5) := by rw [ha]; exact putSel_on (e := (5, 21, z5)) 2 rfl rfl (hon 5 (by kernel_rfl)) rfl
   replace ha := Aside0.mk ha
   have BW := Aside0.mk Q_BW
   have R5 := Aside0.mk (Q_R5 (hon 5 (by kernel_rfl)))
   refine value_ (w1 := w') (v := z5) (by rfl) rfl ?_ ?_
   ·go_simp
    (try simp only [i64_w])
    try rfl
   refine hK.out _ _ ⟨κ, z5, z11, (z5), m13_, (by rw [ha.out]; exact putSel_upk 6 hb_ rfl rfl rfl), Q_BW, Q_R5, Q_R11, fun _ => rfl, fun h0_ => absurd ((hoff 13 (by kernel_rfl)).symm.trans h0_) (by decide)⟩
  refine steps_cons ?_ ?_
  ·rintro b a w' ⟨κ, z5, z11, m12_, m13_, ha, Q_BW, Q_R5, Q_R11, Q_X12_, Q_X13_⟩ hb_ hon hoff
   refine ⟨_, rfl, fun K hK => ?_⟩
   have e27 : a.tmps[27]? = some (z11) := by rw [ha]; exact putSel_on (e := (11, 27, z11)) 5 rfl rfl (hon 11 (by kernel_rfl)) rfl
   replace ha := Aside0.mk ha
   have BW := Aside0.mk Q_BW
   have R5 := Aside0.mk (Q_R5 (hon 5 (by kernel_rfl)))
   have R11 := Aside0.mk (Q_R11 (hon 11 (by kernel_rfl)))
   refine value_ (w1 := w') (v := z11) (by rfl) rfl ?_ ?_
   ·go_simp
    (try simp only [i64_w])
    try rfl
   refine hK.out _ _ ⟨κ, z5, z11, m12_, (z11), (by rw [ha.out]; exact putSel_upk 7 hb_ rfl rfl rfl), Q_BW, Q_R5, Q_R11, Q_X12_, fun _ => rfl⟩
  exact steps_nil
 rintro b a w' hall ⟨κ, z5, z11, m12_, m13_, ha, Q_BW, Q_R5, Q_R11, Q_X12_, Q_X13_⟩
 clear BW
 have hb3_ := hall 3 (by kernel_rfl)
 have hb4_ := hall 4 (by kernel_rfl)
 have hb5_ := hall 5 (by kernel_rfl)
 have hb9_ := hall 9 (by kernel_rfl)
 have hb10_ := hall 10 (by kernel_rfl)
 have hb11_ := hall 11 (by kernel_rfl)
 have hb12_ := hall 12 (by kernel_rfl)
 have hb13_ := hall 13 (by kernel_rfl)
 subst ha
 obtain rfl := Q_X12_ hb12_
 obtain rfl := Q_X13_ hb13_
 simp only [putSel, hb3_, hb4_, hb5_, hb9_, hb10_, hb11_, hb12_, hb13_, if_true, Act.put, List.setIfInBounds_toArray, List.set_cons_zero, List.set_cons_succ]
 have BW := Aside0.mk Q_BW
 clear Q_BW
 have R5 := Aside0.mk (Q_R5 hb5_)
 clear Q_R5
 have R11 := Aside0.mk (Q_R11 hb11_)
 clear Q_R11
 clear hall hb3_ hb4_ hb5_ hb9_ hb10_ hb11_ hb12_ hb13_
 obtain ⟨Xr, yr, rfl, _, _⟩ := R5.out.o.reads
 obtain ⟨Xl, yl, rfl, _, _⟩ := R11.out.o.reads
 have h1n : 0 < n := by have := hs.one; have := HN.out; omega
 have oR : OI w' W1.heap.size (.slice Xr n yr) n (rowOf n (fun _ => 0)) := ⟨R5.out.o.out⟩
 have oL : OI w' W1.heap.size (.slice Xl n yl) n (rowOf n (fun _ => 0)) := ⟨R11.out.o.out⟩
 obtain ⟨gr, rfl, hgr⟩ := oi_form oR h1n
 obtain ⟨gl, rfl, hgl⟩ := oi_form oL h1n
 have hrl : gr ≠ gl := by
  rcases R5.out.apart R11.out (by decide) with e | e
  ·simp [Value.ownBlock] at e
  ·simpa [Value.ownBlock] using e
 have hB0 := hid BW.out
 have hR0 := hid oR
 have hL0 := hid oL
 clear R5 R11 BW oR oL
 have hnf := rf.max
 go_wp2_with fail
 go_loopw [30] (fun v30 wr => ∃ k : Nat, k ≤ nf ∧ v30 = .int .i64 k ∧ Hid (OI wr W1.heap.size (.slice (some ⟨gr, 0, none⟩) n yr) n (rowOf n (pR s (fs.take k)))) ∧ Hid (OI wr W1.heap.size (.slice (some ⟨gl, 0, none⟩) n yl) n (rowOf n (pL s (fs.take k)))) ∧ Hid (Bw W1 wr)) (fun v30 _ => nf - (intOf v30).toNat)
 case atStart => exact ⟨0, by omega, rfl, by rw [List.take_zero, pR_nil]; exact hR0, by rw [List.take_zero, pL_nil]; exact hL0, hB0⟩
 case round =>
  obtain ⟨k, hk, rfl, hR, hL, hB⟩ := hrel
  by_cases hlt : k < nf
  ·have t1 : decide ((k : Int) < (nf : Int)) = true := decide_eq_true (by omega)
   obtain ⟨ad, rfl, hc⟩ := (rf.to hB.out).nat k hlt
   have hmem : rd fs (k : Int) ∈ fs ∧ fs.take (k + 1) = fs.take k ++ [rd fs (k : Int)] := by
    have hk2 : k < fs.length := by rw [rf.len]; exact hlt
    rw [rd_nat, List.getD_eq_getElem?_getD, List.getElem?_eq_getElem hk2]
    exact ⟨List.getElem_mem hk2, by rw [List.take_add_one, List.getElem?_eq_getElem hk2]; rfl⟩
   have hm2 := hmem.1
   rw [HFS.out, mem_actTo] at hm2
   obtain ⟨i, hi1, hi2, _⟩ := hm2
   have hi : i + 1 < n := by have := HN.out; omega
   have hi' : i + 1 < s.lv.length := by omega
   rw [← HFS.out] at hi2
   rw [hi2] at hc hmem
   have HT := hid hmem.2
   clear hmem hi2
   have hk_ := (hB.out.out.block _ (blk_lt HP0.out)).trans HP0.out
   have k0 := (blk_cell hk_ 0).trans (show _ = some (Value.int .i64 s.ro) from rfl)
   have k1 := (blk_cell hk_ 1).trans (show _ = some (Value.slice Al n cl) from rfl)
   have k2 := (blk_cell hk_ 2).trans (show _ = some (Value.slice (some ⟨gm, 0, none⟩) n cm) from rfl)
   have k3 := (blk_cell hk_ 3).trans (show _ = some (Value.slice (some ⟨gt, 0, none⟩) n ct) from rfl)
   have k4 := (blk_cell hk_ 4).trans (show _ = some (Value.slice Ab s.bd.length cb) from rfl)
   clear hk_
   go_wp2_with fail
   refine (impl_stFlux _ s i _ (HX0.out.to hB.out) hs.f hi').mono ?_
   rintro e w2 ⟨rfl, b2⟩
   have hR2 := hR.out.to b2
   have hL2 := hL.out.to b2
   have hB2 := hB.out.trans b2
   have hfb : -10000000 ≤ fluxS s i ∧ fluxS s i ≤ 10000000 := by
    have h1 := pairF_range (flux_ok hs.f hi')
    have h2 := hs.f.mv i (by omega)
    have h3 := hs.f.mv (i + 1) hi'
    have h4 := quarter h2.1
    have h5 := quarter h3.1
    rw [fluxS]
    omega
   have i0 : (0 : Int) ≤ (i : Int) := by omega
   have i1 : (i : Int) < (n : Int) := by omega
   have i2 : (0 : Int) ≤ (i : Int) + 1 := by omega
   have i3 : (i : Int) + 1 < (n : Int) := by omega
   have hkk := hid (show k + 1 ≤ nf ∧ nf - (k + 1) < nf - k by omega)
   have e1 : IntKind.i64.wrap ((i : Int) + 1) = (i : Int) + 1 := i64w (by omega) (by omega)
   have e2 : IntKind.i64.wrap (-(fluxS s i)) = -(fluxS s i) := i64w (by clear e1; omega) (by clear e1; omega)
   have e4 : IntKind.i64.wrap ((k : Int) + 1) = (k : Int) + 1 := i64w (by clear e1 e2; omega) (by clear e1 e2; omega)
   clear hR hL hB b2 hc k0 k1 k2 k3 k4
   by_cases hpos : 0 < fluxS s i
   ·have HF := hid (faces_pos (n := n) (p := fs.take k) hpos)
    have t2 : decide (fluxS s i > 0) = true := decide_eq_true hpos
    have t3 : decide (0 < fluxS s i) = true := decide_eq_true hpos
    obtain ⟨x1, f1⟩ := oi_cell hR2 i (by clear e1 e2 e4; omega)
    have HR := hid (oi_store hR2 i (fluxS s i))
    have HL := hid (oi_off (i := i) (u := .int .i64 (fluxS s i)) hL2 (fun e => hrl e.symm))
    have HB := hid (bw_set hB2 hgr i (.int .i64 (fluxS s i)))
    rw [HF.out.1, ← HT.out] at HR
    rw [HF.out.2, ← HT.out] at HL
    clear hR2 hL2 hB2 hfb HF HT hpos
    go_wp2
    go_roundw
    case rel => exact ⟨k + 1, hkk.out.1, by go_num, HR, HL, HB⟩
    case measure => simp [intOf]; clear e1 e2 e4; omega
   ·have HF := hid (faces_neg (n := n) (p := fs.take k) hpos)
    have t2 : decide (fluxS s i > 0) = false := decide_eq_false hpos
    have t3 : decide (0 < fluxS s i) = false := decide_eq_false hpos
    obtain ⟨x1, f1⟩ := oi_cell hL2 (i + 1) (by clear e1 e2 e4; omega)
    have HR := hid (oi_off (i := i + 1) (u := .int .i64 (-(fluxS s i))) hR2 hrl)
    have HL := hid (oi_store hL2 (i + 1) (-(fluxS s i)))
    have HB := hid (bw_set hB2 hgl (i + 1) (.int .i64 (-(fluxS s i))))
    rw [HF.out.1, ← HT.out] at HR
    rw [HF.out.2, ← HT.out] at HL
    clear hR2 hL2 hB2 hfb HF HT hpos
    go_wp2
    go_roundw
    case rel => exact ⟨k + 1, hkk.out.1, by go_num, HR, HL, HB⟩
    case measure => simp [intOf]; clear e1 e2 e4; omega
  ·obtain rfl : k = nf := by omega
   have hft : fs.take k = fs := List.take_of_length_le (by rw [rf.len]; exact Nat.le_refl _)
   rw [hft] at hR hL
   have hGR := hid (show OI wr W1.heap.size (.slice (some ⟨gr, 0, none⟩) n yr) n (rowOf n (goR s t)) by rw [HFS.out] at hR; rw [← rowOf_congr (fun j hj => pR_all s t j)]; exact hR.out)
   have hGL := hid (show OI wr W1.heap.size (.slice (some ⟨gl, 0, none⟩) n yl) n (rowOf n (goL s t)) by rw [HFS.out] at hL; rw [← rowOf_congr (fun j hj => pL_all s t j)]; exact hL.out)
   have HB0 := hid hB.out
   clear hR hL hft hB
   have HP2 := hid ((HB0.out.out.block _ (blk_lt HP0.out)).trans HP0.out)
   go_upto_region 9 with fail
   generalize wr = W2 at *
   have HP1_ := HP1
   clear HP1
   have HP1 := HP2
   have BW := Aside0.mk (Bw.refl W2)
   have HT_ := Aside0.mk move9tab
   have HW_ := Aside0.mk move9bits
   refine start_ (n := 16) (S := fun w' => True) (ds := []) #[false, false, false, false, false, false, false, false, false, false, false, false, false, false, false, false] (by kernel_rfl) rfl rfl trivial (fun hHeld => ?_)
   refine pq_ (i := 0) (N := some 52) (v := ?_) (a' := ?_) rfl rfl (by kernel_rfl) (fun _ _ _ h => h) (Or.inl ⟨by rfl, ?_⟩) ?_ ?_
   rotate_left; (intro w'; go_simp; with_reducible rfl); rotate_left; (simp only [Act.put, s1_, s2_, s3_, i64_w, i32_w]; rfl)
   refine pq_ (i := 1) (N := some 53) (v := ?_) (a' := ?_) rfl rfl (by kernel_rfl) (fun _ _ _ h => h) (Or.inl ⟨by rfl, ?_⟩) ?_ ?_
   rotate_left; (intro w'; go_simp; with_reducible rfl); rotate_left; (simp only [Act.put, s1_, s2_, s3_, i64_w, i32_w]; rfl)
   refine pq_ (i := 2) (N := some 54) (v := ?_) (a' := ?_) rfl rfl (by kernel_rfl) (fun _ _ _ h => h) (Or.inl ⟨by rfl, ?_⟩) ?_ ?_
   rotate_left; (intro w'; go_simp; with_reducible rfl); rotate_left; (simp only [Act.put, s1_, s2_, s3_, i64_w, i32_w]; rfl)
   refine pq_ (i := 6) (N := some 58) (v := ?_) (a' := ?_) rfl rfl (by kernel_rfl) (fun _ _ _ h => h) (Or.inl ⟨by rfl, ?_⟩) ?_ ?_
   rotate_left; (intro w'; go_simp; with_reducible rfl); rotate_left; (simp only [Act.put, s1_, s2_, s3_, i64_w, i32_w]; rfl)
   refine pq_ (i := 7) (N := some 59) (v := ?_) (a' := ?_) rfl rfl (by kernel_rfl) (fun _ _ _ h => h) (Or.inl ⟨by rfl, ?_⟩) ?_ ?_
   rotate_left; (intro w'; go_simp; with_reducible rfl); rotate_left; (simp only [Act.put, s1_, s2_, s3_, i64_w, i32_w]; rfl)
   refine pq_ (i := 8) (N := some 60) (v := ?_) (a' := ?_) rfl rfl (by kernel_rfl) (fun _ _ _ h => h) (Or.inl ⟨by rfl, ?_⟩) ?_ ?_
   rotate_left; (intro w'; go_simp; with_reducible rfl); rotate_left; (simp only [Act.put, s1_, s2_, s3_, i64_w, i32_w]; rfl)
   refine inv_at [3, 4, 5, 9, 10, 11, 12, 13, 14, 15] (fun a0_ b a w' => ∃ (κ : Nat → Nat) (z5 : Value) (z11 : Value) (q12 : Nat) (q13 : Nat) (m12_ : Value) (m13_ : Value), a = putSel a0_ b [(3, 55, .slice (some ⟨gm, 0, none⟩) n cm), (4, 56, .int .i64 (n : Int)), (5, 57, z5), (9, 61, .slice (some ⟨gm, 0, none⟩) n cm), (10, 62, .int .i64 (n : Int)), (11, 63, z11), (12, 9, m12_), (13, 10, m13_)] ∧ (Bw W2 w') ∧ (b 5 = true → Cn w' W2.heap.size κ 0 3 1 z5 n (rowOf n (fun _ => 0))) ∧ (b 11 = true → Cn w' W2.heap.size κ 1 3 1 z11 n (rowOf n (fun _ => 0))) ∧ (b 12 = true → W2.heap.size ≤ q12) ∧ (b 12 = true → q12 < w'.heap.size) ∧ (b 12 = true → b 14 = false → w'.heap[q12]? = some (.cells #[.slice none 0 0] 27 (0, 0))) ∧ (b 14 = true → w'.heap[q12]? = some (.cells #[z5] 27 (0, 0))) ∧ (b 13 = true → W2.heap.size ≤ q13) ∧ (b 13 = true → q13 < w'.heap.size) ∧ (b 13 = true → b 15 = false → w'.heap[q13]? = some (.cells #[.slice none 0 0] 27 (0, 0))) ∧ (b 15 = true → w'.heap[q13]? = some (.cells #[z11] 27 (0, 0))) ∧ (b 12 = true → b 13 = true → q12 ≠ q13) ∧ (b 12 = true → (m12_ : Value) = .pointer (some ⟨q12, 0, none⟩)) ∧ (b 13 = true → (m13_ : Value) = .pointer (some ⟨q13, 0, none⟩))) HT_.out HW_.out (by kernel_rfl) (by kernel_rfl) ?_ ?_ ?_
   ·exact ⟨fun _ => 0, .slice none 0 0, .slice none 0 0, 0, 0, .bool false, .bool false, by simp only [putSel, Bool.false_eq_true, if_false], BW.out.trans (Bw.drawn ⟨⟨1, rfl⟩⟩), fun h_ => absurd h_ (by decide), fun h_ => absurd h_ (by decide), fun h_ => absurd h_ (by decide), fun h_ => absurd h_ (by decide), fun h_ => absurd h_ (by decide), fun h_ => absurd h_ (by decide), fun h_ => absurd h_ (by decide), fun h_ => absurd h_ (by decide), fun h_ => absurd h_ (by decide), fun h_ => absurd h_ (by decide), fun h_ => absurd h_ (by decide), fun h_ => absurd h_ (by decide), fun h_ => absurd h_ (by decide)⟩
   ·skip
    clear BW
    refine steps_cons ?_ ?_
    ·rintro b a w' ⟨κ, z5, z11, q12, q13, m12_, m13_, ha, Q_BW, Q_R5, Q_R11, Q_GE12, Q_LT12, Q_BX12, Q_BY12, Q_GE13, Q_LT13, Q_BX13, Q_BY13, Q_NE, Q_X12_, Q_X13_⟩ hb_ hon hoff
     refine ⟨_, rfl, fun K hK => ?_⟩
     have e54 : a.tmps[54]? = some (.pointer (some ⟨P, 2, none⟩)) := by rw [ha]; exact (putSel_off rfl).trans rfl
     replace ha := Aside0.mk ha
     have BW := Aside0.mk Q_BW
     have hc_ := (blk_cell ((BW.out.out.block _ (blk_lt HP1.out)).trans HP1.out) 2).trans (show _ = some (Value.slice (some ⟨gm, 0, none⟩) n cm) from rfl)
     refine value_ (w1 := w') (v := .slice (some ⟨gm, 0, none⟩) n cm) (by rfl) rfl ?_ ?_
     ·go_simp
      (try simp only [i64_w])
      try rfl
     refine hK.out _ _ ⟨κ, z5, z11, q12, q13, m12_, m13_, (by rw [ha.out]; exact putSel_upk 0 hb_ rfl rfl rfl), Q_BW, fun h0_ => absurd ((hoff 5 (by kernel_rfl)).symm.trans h0_) (by decide), Q_R11, Q_GE12, Q_LT12, Q_BX12, fun h0_ => absurd ((hoff 14 (by kernel_rfl)).symm.trans h0_) (by decide), Q_GE13, Q_LT13, Q_BX13, fun h0_ => absurd ((hoff 15 (by kernel_rfl)).symm.trans h0_) (by decide), Q_NE, Q_X12_, Q_X13_⟩
    refine steps_cons ?_ ?_
    ·rintro b a w' ⟨κ, z5, z11, q12, q13, m12_, m13_, ha, Q_BW, Q_R5, Q_R11, Q_GE12, Q_LT12, Q_BX12, Q_BY12, Q_GE13, Q_LT13, Q_BX13, Q_BY13, Q_NE, Q_X12_, Q_X13_⟩ hb_ hon hoff
     refine ⟨_, rfl, fun K hK => ?_⟩
     have e55 : a.tmps[55]? = some (.slice (some ⟨gm, 0, none⟩) n cm) := by rw [ha]; exact putSel_on (e := (3, 55, .slice (some ⟨gm, 0, none⟩) n cm)) 0 rfl rfl (hon 3 (by kernel_rfl)) rfl
     replace ha := Aside0.mk ha
     have BW := Aside0.mk Q_BW
     refine value_ (w1 := w') (v := .int .i64 (n : Int)) (by rfl) rfl ?_ ?_
     ·go_simp
      (try simp only [i64_w])
      try rfl
     refine hK.out _ _ ⟨κ, z5, z11, q12, q13, m12_, m13_, (by rw [ha.out]; exact putSel_upk 1 hb_ rfl rfl rfl), Q_BW, fun h0_ => absurd ((hoff 5 (by kernel_rfl)).symm.trans h0_) (by decide), Q_R11, Q_GE12, Q_LT12, Q_BX12, fun h0_ => absurd ((hoff 14 (by kernel_rfl)).symm.trans h0_) (by decide), Q_GE13, Q_LT13, Q_BX13, fun h0_ => absurd ((hoff 15 (by kernel_rfl)).symm.trans h0_) (by decide), Q_NE, Q_X12_, Q_X13_⟩
    refine steps_cons ?_ ?_
    ·rintro b a w' ⟨κ, z5, z11, q12, q13, m12_, m13_, ha, Q_BW, Q_R5, Q_R11, Q_GE12, Q_LT12, Q_BX12, Q_BY12, Q_GE13, Q_LT13, Q_BX13, Q_BY13, Q_NE, Q_X12_, Q_X13_⟩ hb_ hon hoff
     refine ⟨_, rfl, fun K hK => ?_⟩
     have e56 : a.tmps[56]? = some (.int .i64 (n : Int)) := by rw [ha]; exact putSel_on (e := (4, 56, .int .i64 (n : Int))) 1 rfl rfl (hon 4 (by kernel_rfl)) rfl
     replace ha := Aside0.mk ha
     have BW := Aside0.mk Q_BW
     have hsz : W2.heap.size ≤ w'.heap.size := BW.out.size
     have hkm := HKM.out
     refine mkN_step (n := n) hN63.out (N := 57) ?hg ?hd ?hr ?_; (case hd => rfl); (case hg => rfl); (case hr => first | (go_simp; done) | (go_simp; rfl))
     intro XL yL wL oL bL
     refine hK.out _ _ ⟨(paint κ w'.heap.size 0), (.slice XL n yL), z11, q12, q13, m12_, m13_, (by rw [ha.out]; exact putSel_upk 2 hb_ rfl rfl rfl), BW.out.trans bL, fun _ => oL.cn hsz, fun h0_ => (Q_R11 h0_).to bL 0, fun h0_ => (Q_GE12 h0_), fun h0_ => Nat.lt_of_lt_of_le (Q_LT12 h0_) (bL).size, fun h0_ h1_ => ((bL).out.block _ (blk_lt (Q_BX12 h0_ h1_))).trans (Q_BX12 h0_ h1_), fun h0_ => absurd ((hoff 14 (by kernel_rfl)).symm.trans h0_) (by decide), fun h0_ => (Q_GE13 h0_), fun h0_ => Nat.lt_of_lt_of_le (Q_LT13 h0_) (bL).size, fun h0_ h1_ => ((bL).out.block _ (blk_lt (Q_BX13 h0_ h1_))).trans (Q_BX13 h0_ h1_), fun h0_ => absurd ((hoff 15 (by kernel_rfl)).symm.trans h0_) (by decide), fun h0_ h1_ => (Q_NE h0_ h1_), Q_X12_, Q_X13_⟩
    refine steps_cons ?_ ?_
    ·rintro b a w' ⟨κ, z5, z11, q12, q13, m12_, m13_, ha, Q_BW, Q_R5, Q_R11, Q_GE12, Q_LT12, Q_BX12, Q_BY12, Q_GE13, Q_LT13, Q_BX13, Q_BY13, Q_NE, Q_X12_, Q_X13_⟩ hb_ hon hoff
     refine ⟨_, rfl, fun K hK => ?_⟩
     have e60 : a.tmps[60]? = some (.pointer (some ⟨P, 2, none⟩)) := by rw [ha]; exact (putSel_off rfl).trans rfl
     replace ha := Aside0.mk ha
     have BW := Aside0.mk Q_BW
     have hc_ := (blk_cell ((BW.out.out.block _ (blk_lt HP1.out)).trans HP1.out) 2).trans (show _ = some (Value.slice (some ⟨gm, 0, none⟩) n cm) from rfl)
     refine value_ (w1 := w') (v := .slice (some ⟨gm, 0, none⟩) n cm) (by rfl) rfl ?_ ?_
     ·go_simp
      (try simp only [i64_w])
      try rfl
     refine hK.out _ _ ⟨κ, z5, z11, q12, q13, m12_, m13_, (by rw [ha.out]; exact putSel_upk 3 hb_ rfl rfl rfl), Q_BW, Q_R5, fun h0_ => absurd ((hoff 11 (by kernel_rfl)).symm.trans h0_) (by decide), Q_GE12, Q_LT12, Q_BX12, Q_BY12, Q_GE13, Q_LT13, Q_BX13, fun h0_ => absurd ((hoff 15 (by kernel_rfl)).symm.trans h0_) (by decide), Q_NE, Q_X12_, Q_X13_⟩
    refine steps_cons ?_ ?_
    ·rintro b a w' ⟨κ, z5, z11, q12, q13, m12_, m13_, ha, Q_BW, Q_R5, Q_R11, Q_GE12, Q_LT12, Q_BX12, Q_BY12, Q_GE13, Q_LT13, Q_BX13, Q_BY13, Q_NE, Q_X12_, Q_X13_⟩ hb_ hon hoff
     refine ⟨_, rfl, fun K hK => ?_⟩
     have e61 : a.tmps[61]? = some (.slice (some ⟨gm, 0, none⟩) n cm) := by rw [ha]; exact putSel_on (e := (9, 61, .slice (some ⟨gm, 0, none⟩) n cm)) 3 rfl rfl (hon 9 (by kernel_rfl)) rfl
     replace ha := Aside0.mk ha
     have BW := Aside0.mk Q_BW
     refine value_ (w1 := w') (v := .int .i64 (n : Int)) (by rfl) rfl ?_ ?_
     ·go_simp
      (try simp only [i64_w])
      try rfl
     refine hK.out _ _ ⟨κ, z5, z11, q12, q13, m12_, m13_, (by rw [ha.out]; exact putSel_upk 4 hb_ rfl rfl rfl), Q_BW, Q_R5, fun h0_ => absurd ((hoff 11 (by kernel_rfl)).symm.trans h0_) (by decide), Q_GE12, Q_LT12, Q_BX12, Q_BY12, Q_GE13, Q_LT13, Q_BX13, fun h0_ => absurd ((hoff 15 (by kernel_rfl)).symm.trans h0_) (by decide), Q_NE, Q_X12_, Q_X13_⟩
    refine steps_cons ?_ ?_
    ·rintro b a w' ⟨κ, z5, z11, q12, q13, m12_, m13_, ha, Q_BW, Q_R5, Q_R11, Q_GE12, Q_LT12, Q_BX12, Q_BY12, Q_GE13, Q_LT13, Q_BX13, Q_BY13, Q_NE, Q_X12_, Q_X13_⟩ hb_ hon hoff
     refine ⟨_, rfl, fun K hK => ?_⟩
     have e62 : a.tmps[62]? = some (.int .i64 (n : Int)) := by rw [ha]; exact putSel_on (e := (10, 62, .int .i64 (n : Int))) 4 rfl rfl (hon 10 (by kernel_rfl)) rfl
     replace ha := Aside0.mk ha
     have BW := Aside0.mk Q_BW
     have hsz : W2.heap.size ≤ w'.heap.size := BW.out.size
     have hkm := HKM.out
     refine mkN_step (n := n) hN63.out (N := 63) ?hg ?hd ?hr ?_; (case hd => rfl); (case hg => rfl); (case hr => first | (go_simp; done) | (go_simp; rfl))
     intro XL yL wL oL bL
     refine hK.out _ _ ⟨(paint κ w'.heap.size 1), z5, (.slice XL n yL), q12, q13, m12_, m13_, (by rw [ha.out]; exact putSel_upk 5 hb_ rfl rfl rfl), BW.out.trans bL, fun h0_ => (Q_R5 h0_).to bL 1, fun _ => oL.cn hsz, fun h0_ => (Q_GE12 h0_), fun h0_ => Nat.lt_of_lt_of_le (Q_LT12 h0_) (bL).size, fun h0_ h1_ => ((bL).out.block _ (blk_lt (Q_BX12 h0_ h1_))).trans (Q_BX12 h0_ h1_), fun h0_ => ((bL).out.block _ (blk_lt (Q_BY12 h0_))).trans (Q_BY12 h0_), fun h0_ => (Q_GE13 h0_), fun h0_ => Nat.lt_of_lt_of_le (Q_LT13 h0_) (bL).size, fun h0_ h1_ => ((bL).out.block _ (blk_lt (Q_BX13 h0_ h1_))).trans (Q_BX13 h0_ h1_), fun h0_ => absurd ((hoff 15 (by kernel_rfl)).symm.trans h0_) (by decide), fun h0_ h1_ => (Q_NE h0_ h1_), Q_X12_, Q_X13_⟩
    refine steps_cons ?_ ?_
    ·rintro b a w' ⟨κ, z5, z11, q12, q13, m12_, m13_, ha, Q_BW, Q_R5, Q_R11, Q_GE12, Q_LT12, Q_BX12, Q_BY12, Q_GE13, Q_LT13, Q_BX13, Q_BY13, Q_NE, Q_X12_, Q_X13_⟩ hb_ hon hoff
     refine ⟨_, rfl, fun K hK => ?_⟩
     replace ha := Aside0.mk ha
     have BW := Aside0.mk Q_BW
     refine box_step ?hg (N := 9) ?hd (cs := #[.slice none 0 0]) (t := 27) ?hr ?_; (case hd => rfl); (case hg => rfl); (case hr => first | (go_simp; done) | (go_simp; rfl))
     intro gN hgN wN hbox hb5
     refine hK.out _ _ ⟨(paint κ w'.heap.size 5), z5, z11, gN, q13, (.pointer (some ⟨gN, 0, none⟩)), m13_, (by rw [ha.out]; exact putSel_upk 6 hb_ rfl rfl rfl), BW.out.trans (⟨hb5⟩ : Bw w' wN), fun h0_ => (Q_R5 h0_).to (⟨hb5⟩ : Bw w' wN) 5, fun h0_ => (Q_R11 h0_).to (⟨hb5⟩ : Bw w' wN) 5, fun _ => by rw [hgN]; exact BW.out.size, fun _ => blk_lt hbox, fun _ _ => hbox, fun h0_ => absurd ((hoff 14 (by kernel_rfl)).symm.trans h0_) (by decide), fun h0_ => (Q_GE13 h0_), fun h0_ => Nat.lt_of_lt_of_le (Q_LT13 h0_) ((⟨hb5⟩ : Bw w' wN)).size, fun h0_ h1_ => (((⟨hb5⟩ : Bw w' wN)).out.block _ (blk_lt (Q_BX13 h0_ h1_))).trans (Q_BX13 h0_ h1_), fun h0_ => absurd ((hoff 15 (by kernel_rfl)).symm.trans h0_) (by decide), fun _ _ => (by rename_i h1_ h2_; have hl_ := Q_LT13 h2_; intro e_; rw [hgN] at e_; omega), fun _ => rfl, Q_X13_⟩
    refine steps_cons ?_ ?_
    ·rintro b a w' ⟨κ, z5, z11, q12, q13, m12_, m13_, ha, Q_BW, Q_R5, Q_R11, Q_GE12, Q_LT12, Q_BX12, Q_BY12, Q_GE13, Q_LT13, Q_BX13, Q_BY13, Q_NE, Q_X12_, Q_X13_⟩ hb_ hon hoff
     refine ⟨_, rfl, fun K hK => ?_⟩
     replace ha := Aside0.mk ha
     have BW := Aside0.mk Q_BW
     refine box_step ?hg (N := 10) ?hd (cs := #[.slice none 0 0]) (t := 27) ?hr ?_; (case hd => rfl); (case hg => rfl); (case hr => first | (go_simp; done) | (go_simp; rfl))
     intro gN hgN wN hbox hb5
     refine hK.out _ _ ⟨(paint κ w'.heap.size 5), z5, z11, q12, gN, m12_, (.pointer (some ⟨gN, 0, none⟩)), (by rw [ha.out]; exact putSel_upk 7 hb_ rfl rfl rfl), BW.out.trans (⟨hb5⟩ : Bw w' wN), fun h0_ => (Q_R5 h0_).to (⟨hb5⟩ : Bw w' wN) 5, fun h0_ => (Q_R11 h0_).to (⟨hb5⟩ : Bw w' wN) 5, fun h0_ => (Q_GE12 h0_), fun h0_ => Nat.lt_of_lt_of_le (Q_LT12 h0_) ((⟨hb5⟩ : Bw w' wN)).size, fun h0_ h1_ => (((⟨hb5⟩ : Bw w' wN)).out.block _ (blk_lt (Q_BX12 h0_ h1_))).trans (Q_BX12 h0_ h1_), fun h0_ => absurd ((hoff 14 (by kernel_rfl)).symm.trans h0_) (by decide), fun _ => by rw [hgN]; exact BW.out.size, fun _ => blk_lt hbox, fun _ _ => hbox, fun h0_ => absurd ((hoff 15 (by kernel_rfl)).symm.trans h0_) (by decide), fun _ _ => (by rename_i h1_ h2_; have hl_ := Q_LT12 h1_; intro e_; rw [hgN] at e_; omega), Q_X12_, fun _ => rfl⟩
    refine steps_cons ?_ ?_
    ·rintro b a w' ⟨κ, z5, z11, q12, q13, m12_, m13_, ha, Q_BW, Q_R5, Q_R11, Q_GE12, Q_LT12, Q_BX12, Q_BY12, Q_GE13, Q_LT13, Q_BX13, Q_BY13, Q_NE, Q_X12_, Q_X13_⟩ hb_ hon hoff
     refine ⟨_, rfl, fun K hK => ?_⟩
     have e9 : a.tmps[9]? = some (m12_) := by rw [ha]; exact putSel_on (e := (12, 9, m12_)) 6 rfl rfl (hon 12 (by kernel_rfl)) rfl
     rw [Q_X12_ (hon 12 (by kernel_rfl))] at e9
     have e57 : a.tmps[57]? = some (z5) := by rw [ha]; exact putSel_on (e := (5, 57, z5)) 2 rfl rfl (hon 5 (by kernel_rfl)) rfl
     replace ha := Aside0.mk ha
     have BW := Aside0.mk Q_BW
     have R5 := Aside0.mk (Q_R5 (hon 5 (by kernel_rfl)))
     have GE12 := Aside0.mk (Q_GE12 (hon 12 (by kernel_rfl)))
     have LT12 := Aside0.mk (Q_LT12 (hon 12 (by kernel_rfl)))
     have BX12 := Aside0.mk (Q_BX12 (hon 12 (by kernel_rfl)) hb_)
     have GE13 := Aside0.mk (Q_GE13 (hon 13 (by kernel_rfl)))
     have LT13 := Aside0.mk (Q_LT13 (hon 13 (by kernel_rfl)))
     have BX13 := Aside0.mk (Q_BX13 (hon 13 (by kernel_rfl)) (hoff 15 (by kernel_rfl)))
     have NE := Aside0.mk (Q_NE (hon 12 (by kernel_rfl)) (hon 13 (by kernel_rfl)))
     obtain ⟨X5_, y5_, e_, _, _⟩ := R5.out.o.reads
     subst e_
     have hs_ := (blk_cell BX12.out 0).trans (show _ = some (Value.slice none 0 0) from rfl)
     have hf_ := blk_frozen BX12.out 0
     have hwi2 := Aside0.mk (Wi.set w' q12 0 (.slice X5_ n y5_))
     refine skip_ (w1 := ?_) (by rfl) rfl ?_ ?_
     rotate_left
     ·go_simp
      rfl
     have hwi := hwi2.out
     refine hK.out _ _ ⟨κ, (.slice X5_ n y5_), z11, q12, q13, m12_, m13_, (by rw [ha.out]; exact putSel_none (v := undef) rfl), BW.out.then_wi hwi GE12.out, fun _ => R5.out.store BX12.out (by decide) hwi, fun h0_ => (Q_R11 h0_).store BX12.out (by decide) hwi, fun _ => GE12.out, fun _ => Nat.lt_of_lt_of_le LT12.out hwi.size, fun _ h1_ => absurd ((up_self b 14).symm.trans h1_) (by decide), fun _ => (blk_set BX12.out 0 (.slice X5_ n y5_)).trans rfl, fun _ => GE13.out, fun _ => Nat.lt_of_lt_of_le LT13.out hwi.size, fun _ _ => (hwi.block _ (blk_lt BX13.out) (by have := NE.out; omega)).trans BX13.out, fun h0_ => absurd ((hoff 15 (by kernel_rfl)).symm.trans h0_) (by decide), fun _ _ => NE.out, Q_X12_, Q_X13_⟩
    refine steps_cons ?_ ?_
    ·rintro b a w' ⟨κ, z5, z11, q12, q13, m12_, m13_, ha, Q_BW, Q_R5, Q_R11, Q_GE12, Q_LT12, Q_BX12, Q_BY12, Q_GE13, Q_LT13, Q_BX13, Q_BY13, Q_NE, Q_X12_, Q_X13_⟩ hb_ hon hoff
     refine ⟨_, rfl, fun K hK => ?_⟩
     have e10 : a.tmps[10]? = some (m13_) := by rw [ha]; exact putSel_on (e := (13, 10, m13_)) 7 rfl rfl (hon 13 (by kernel_rfl)) rfl
     rw [Q_X13_ (hon 13 (by kernel_rfl))] at e10
     have e63 : a.tmps[63]? = some (z11) := by rw [ha]; exact putSel_on (e := (11, 63, z11)) 5 rfl rfl (hon 11 (by kernel_rfl)) rfl
     replace ha := Aside0.mk ha
     have BW := Aside0.mk Q_BW
     have R5 := Aside0.mk (Q_R5 (hon 5 (by kernel_rfl)))
     have R11 := Aside0.mk (Q_R11 (hon 11 (by kernel_rfl)))
     have GE12 := Aside0.mk (Q_GE12 (hon 12 (by kernel_rfl)))
     have LT12 := Aside0.mk (Q_LT12 (hon 12 (by kernel_rfl)))
     have BY12 := Aside0.mk (Q_BY12 (hon 14 (by kernel_rfl)))
     have GE13 := Aside0.mk (Q_GE13 (hon 13 (by kernel_rfl)))
     have LT13 := Aside0.mk (Q_LT13 (hon 13 (by kernel_rfl)))
     have BX13 := Aside0.mk (Q_BX13 (hon 13 (by kernel_rfl)) hb_)
     have NE := Aside0.mk (Q_NE (hon 12 (by kernel_rfl)) (hon 13 (by kernel_rfl)))
     obtain ⟨X11_, y11_, e_, _, _⟩ := R11.out.o.reads
     subst e_
     have hs_ := (blk_cell BX13.out 0).trans (show _ = some (Value.slice none 0 0) from rfl)
     have hf_ := blk_frozen BX13.out 0
     have hwi2 := Aside0.mk (Wi.set w' q13 0 (.slice X11_ n y11_))
     refine skip_ (w1 := ?_) (by rfl) rfl ?_ ?_
     rotate_left
     ·go_simp
      rfl
     have hwi := hwi2.out
     refine hK.out _ _ ⟨κ, z5, (.slice X11_ n y11_), q12, q13, m12_, m13_, (by rw [ha.out]; exact putSel_none (v := undef) rfl), BW.out.then_wi hwi GE13.out, fun _ => R5.out.store BX13.out (by decide) hwi, fun _ => R11.out.store BX13.out (by decide) hwi, fun _ => GE12.out, fun _ => Nat.lt_of_lt_of_le LT12.out hwi.size, fun _ h1_ => absurd ((hon 14 (by kernel_rfl)).symm.trans h1_) (by decide), fun _ => (hwi.block _ (blk_lt BY12.out) (by have := NE.out; omega)).trans BY12.out, fun _ => GE13.out, fun _ => Nat.lt_of_lt_of_le LT13.out hwi.size, fun _ h1_ => absurd ((up_self b 15).symm.trans h1_) (by decide), fun _ => (blk_set BX13.out 0 (.slice X11_ n y11_)).trans rfl, fun _ _ => NE.out, Q_X12_, Q_X13_⟩
    exact steps_nil
   rintro b a w' hall ⟨κ, z5, z11, q12, q13, m12_, m13_, ha, Q_BW, Q_R5, Q_R11, Q_GE12, Q_LT12, Q_BX12, Q_BY12, Q_GE13, Q_LT13, Q_BX13, Q_BY13, Q_NE, Q_X12_, Q_X13_⟩
   clear BW
   have hb3_ := hall 3 (by kernel_rfl)
   have hb4_ := hall 4 (by kernel_rfl)
   have hb5_ := hall 5 (by kernel_rfl)
   have hb9_ := hall 9 (by kernel_rfl)
   have hb10_ := hall 10 (by kernel_rfl)
   have hb11_ := hall 11 (by kernel_rfl)
   have hb12_ := hall 12 (by kernel_rfl)
   have hb13_ := hall 13 (by kernel_rfl)
   have hb14_ := hall 14 (by kernel_rfl)
   have hb15_ := hall 15 (by kernel_rfl)
   subst ha
   obtain rfl := Q_X12_ hb12_
   obtain rfl := Q_X13_ hb13_
   simp only [putSel, hb3_, hb4_, hb5_, hb9_, hb10_, hb11_, hb12_, hb13_, hb14_, hb15_, if_true, Act.put, List.setIfInBounds_toArray, List.set_cons_zero, List.set_cons_succ]
   have BW := Aside0.mk Q_BW
   clear Q_BW
   have R5 := Aside0.mk (Q_R5 hb5_)
   clear Q_R5
   have R11 := Aside0.mk (Q_R11 hb11_)
   clear Q_R11
   have GE12 := Aside0.mk (Q_GE12 hb12_)
   clear Q_GE12
   have LT12 := Aside0.mk (Q_LT12 hb12_)
   clear Q_LT12
   clear Q_BX12
   have BY12 := Aside0.mk (Q_BY12 hb14_)
   clear Q_BY12
   have GE13 := Aside0.mk (Q_GE13 hb13_)
   clear Q_GE13
   have LT13 := Aside0.mk (Q_LT13 hb13_)
   clear Q_LT13
   clear Q_BX13
   have BY13 := Aside0.mk (Q_BY13 hb15_)
   clear Q_BY13
   have NE := Aside0.mk (Q_NE hb12_ hb13_)
   clear Q_NE
   clear hall hb3_ hb4_ hb5_ hb9_ hb10_ hb11_ hb12_ hb13_ hb14_ hb15_
   obtain ⟨X5, y5, rfl, _, _⟩ := R5.out.o.reads
   obtain ⟨X11, y11, rfl, _, _⟩ := R11.out.o.reads
   have oM : OI w' W2.heap.size (.slice X5 n y5) n (rowOf n (fun _ => 0)) := ⟨R5.out.o.out⟩
   have oT : OI w' W2.heap.size (.slice X11 n y11) n (rowOf n (fun _ => 0)) := ⟨R11.out.o.out⟩
   obtain ⟨G, rfl, hG⟩ := oi_form oM h1n
   obtain ⟨H, rfl, hH⟩ := oi_form oT h1n
   have hGH : G ≠ H := by
    rcases R5.out.apart R11.out (by decide) with e | e
    ·simp [Value.ownBlock] at e
    ·simpa [Value.ownBlock] using e
   have n1 : q12 ≠ G := fun e => own_ne R5.out.o.out BY12.out (by decide) (by rw [e]; rfl)
   have n2 : q12 ≠ H := fun e => own_ne R11.out.o.out BY12.out (by decide) (by rw [e]; rfl)
   have n3 : q13 ≠ G := fun e => own_ne R5.out.o.out BY13.out (by decide) (by rw [e]; rfl)
   have n4 : q13 ≠ H := fun e => own_ne R11.out.o.out BY13.out (by decide) (by rw [e]; rfl)
   have hS0 := hid (show SH w' W2.heap.size q12 q13 G H n y5 y11 (rowOf n (dlt (goR s t) (goL s t) 0)) (rowOf n (dlt (oA s t) (oB s t) 0)) by
    rw [dlt_zero, dlt_zero]
    exact ⟨(blk_cell BY12.out 0).trans rfl, (blk_cell BY13.out 0).trans rfl, oM, oT, hGH, n1, n2, n3, n4⟩)
   have hB2 := hid BW.out
   have hgr2 : gr < W2.heap.size := own_lt hGR.out.out gr rfl
   have hgl2 : gl < W2.heap.size := own_lt hGL.out.out gl rfl
   have hGR2 := hid (hGR.out.to hB2.out)
   have hGL2 := hid (hGL.out.to hB2.out)
   have hEG := hid (enters_of Try.func61 (by kernel_rfl) rfl)
   have kp := (hB2.out.out.block _ (blk_lt HP2.out)).trans HP2.out
   have k2 := (blk_cell kp 2).trans (show _ = some (Value.slice (some ⟨gm, 0, none⟩) n cm) from rfl)
   have hq12 := GE12.out
   have hq13 := GE13.out
   clear R5 R11 BW oM oT GE12 GE13 LT12 LT13 BY12 BY13 NE hGR hGL n1 n2 n3 n4 kp
   go_wp2_with fail
   clear k2
   go_loopw [70] (fun v70 wr => ∃ k : Nat, k ≤ n ∧ v70 = .int .i64 k ∧ Hid (SH wr W2.heap.size q12 q13 G H n y5 y11 (rowOf n (dlt (goR s t) (goL s t) k)) (rowOf n (dlt (oA s t) (oB s t) k))) ∧ Hid (Bw W2 wr) ∧ Hid (OI wr W1.heap.size (.slice (some ⟨gr, 0, none⟩) n yr) n (rowOf n (goR s t))) ∧ Hid (OI wr W1.heap.size (.slice (some ⟨gl, 0, none⟩) n yl) n (rowOf n (goL s t)))) (fun v70 _ => n - (intOf v70).toNat)
   case atStart => exact ⟨0, by omega, rfl, hS0, hB2, hGR2, hGL2⟩
   case round =>
    obtain ⟨k, hk, rfl, hS, hB, hR, hL⟩ := hrel
    by_cases hlt : k < n
    ·have t1 : decide ((k : Int) < (n : Int)) = true := decide_eq_true (by omega)
     have HK := hid (show k < s.lv.length by rw [HN.out]; exact hlt)
     obtain ⟨a, ha⟩ : ∃ a, outA (rd s.ts (k : Int)) (rd s.ms (k : Int)) (goR s t k) = a := ⟨_, rfl⟩
     obtain ⟨b, hb⟩ : ∃ b, outB (rd s.ts (k : Int)) (rd s.ms (k : Int)) (goR s t k) (goL s t k) = b := ⟨_, rfl⟩
     have HA := hid (show oA s t k = a from ha)
     have HBB := hid (show oB s t k = b from hb)
     have HGO := hid (go_range hs.f t k HK.out)
     have HMV := hid (hs.f.mv k HK.out)
     have HTV := hid (hs.tv k HK.out)
     have HLO := hid (fun W => ((impl_LeafOut (rd s.ts (k : Int)) (rd s.ms (k : Int)) (goR s t k) (goL s t k) W HMV.out HTV.out HGO.out.1 HGO.out.2.1 HGO.out.2.2.2.2).mono (show ∀ e w', _ → e = .returned (.tuple #[.int .i64 a, .int .i64 b]) ∧ w' = W from fun e w' h => ⟨by rw [h.1, ha, hb], h.2.symm⟩)))
     clear ha hb
     have kp := (hB.out.out.block _ (blk_lt HP2.out)).trans HP2.out
     have k2 := (blk_cell kp 2).trans (show _ = some (Value.slice (some ⟨gm, 0, none⟩) n cm) from rfl)
     have k3 := (blk_cell kp 3).trans (show _ = some (Value.slice (some ⟨gt, 0, none⟩) n ct) from rfl)
     obtain ⟨xm, _⟩ := oi_cell ((HO0.out.1.to HB0.out).to hB.out) k hlt
     obtain ⟨xt, _⟩ := oi_cell ((HO0.out.2.to HB0.out).to hB.out) k hlt
     obtain ⟨xr, _⟩ := oi_cell hR.out k hlt
     obtain ⟨xl, _⟩ := oi_cell hL.out k hlt
     rw [rd_rowOf _ hlt] at xr xl
     have i0 : (0 : Int) ≤ (k : Int) := by omega
     have i1 : (k : Int) < (n : Int) := by omega
     clear kp
     go_upto_region 14 with fail
     go_quiet ((go_at_call 62; exact Calls.quiet_of_same (HLO.out _)))
     go_upto_region 15 with fail
     have bQ : Bw wr (wr.drewN nq) := Bw.drawn ⟨⟨nq, rfl⟩⟩
     have hS1 := hid (hS.out.to bQ)
     have hB1 := hid (hB.out.trans bQ)
     have hR1 := hid (hR.out.to bQ)
     have hL1 := hid (hL.out.to bQ)
     obtain ⟨xr1, _⟩ := oi_cell hR1.out k hlt
     rw [rd_rowOf _ hlt] at xr1
     clear xm xt xr xl k2 k3 hS hB hR hL bQ
     generalize wr.drewN nq = W4 at *
     have e1 : IntKind.i64.wrap ((k : Int) + 1) = (k : Int) + 1 := i64w (by omega) (by omega)
     have e2 : IntKind.i64.wrap ((k : Int) - 1) = (k : Int) - 1 := i64w (by clear e1; omega) (by clear e1; omega)
     have hrm := hid (fun (q : Nat) (hq : q < n) => dlt_range (a := goR s t) (b := goL s t) (n := n) (k := k) (B := 10000000) (by clear e1 e2; omega) (fun i hi => by have h1 := go_range hs.f t i (by rw [HN.out]; exact hi); have h2 := hs.f.mv i (by rw [HN.out]; exact hi); clear e1 e2; omega) hk hq)
     have hrt := hid (fun (q : Nat) (hq : q < n) => dlt_range (a := oA s t) (b := oB s t) (n := n) (k := k) (B := 10000000000) (by clear e1 e2; omega) (fun i hi => by have h1 := oAB_range hs t i (by rw [HN.out]; exact hi); clear e1 e2; omega) hk hq)
     have hAB := hid (oAB_range hs t k HK.out)
     have hLAST := hid (show ¬ k + 1 < n → goR s t k = 0 from fun h => by
      have h1 := (fl_range hs.f t k HK.out).2.2 (by rw [HN.out]; exact h)
      rw [goR, h1]; rfl)
     have hFIRST := hid (show k = 0 → goL s t k = 0 from fun h => by subst h; rfl)
     have hZA := hid (show goR s t k = 0 → a = 0 from fun h => by
      rw [← HA.out]
      refine oA_zero s t k ?_
      rw [goR] at h
      clear e1 e2
      omega)
     have hZB := hid (show goL s t k = 0 → b = 0 from fun h => by
      rw [← HBB.out]
      refine oB_zero s t k ?_
      rw [goL] at h
      clear e1 e2
      omega)
     rw [HA.out, HBB.out] at hAB
     have eg := hEG.out
     go_wp2_with fail
     refine (move_shiftC hS1.out k ((k : Int) + 1) (goR s t k) a hlt (by have := HGO.out; have := HMV.out; clear e1 e2; omega) (by have := hAB.out; clear e1 e2; omega) (fun h => by
      have h1 : k + 1 < n := Decidable.byContradiction fun h2 => by have := hLAST.out h2; clear e1 e2; omega
      clear e1 e2
      exact ⟨by omega, by omega, by omega⟩) hZA.out (fun q hq => by have := hrm.out q hq; clear e1 e2; omega) (fun q hq => by have := hrt.out q hq; clear e1 e2; omega)).mono ?_
     rintro e w5 ⟨_, rfl, hs5, z5⟩
     have hS2 := hid hs5
     have hB2 := hid (z5.bw hB1.out hG hH)
     have hR2 := hid (oi_sh2 hR1.out z5 (by clear e1 e2; omega) (by clear e1 e2; omega))
     have hL2 := hid (oi_sh2 hL1.out z5 (by clear e1 e2; omega) (by clear e1 e2; omega))
     obtain ⟨xl1, _⟩ := oi_cell hL2.out k hlt
     rw [rd_rowOf _ hlt] at xl1
     clear xr1 hs5 z5 hS1 hB1 hR1 hL1
     go_wp2_with fail
     refine (move_shiftC hS2.out k ((k : Int) - 1) (goL s t k) b hlt (by have := HGO.out; have := HMV.out; clear e1 e2; omega) (by have := hAB.out; clear e1 e2; omega) (fun h => by
      have h1 : 0 < k := Decidable.byContradiction fun h2 => by have := hFIRST.out (by clear e1 e2; omega); clear e1 e2; omega
      clear e1 e2
      exact ⟨by omega, by omega, by omega⟩) hZB.out (fun q hq => by
       have h1 := hrm.out q hq
       have h2 := shf_range (f := dlt (goR s t) (goL s t) k) (i := k) (j := (k : Int) + 1) (x := goR s t k) (B := 20000000) (C := 10000000) (q := q) (by clear e1 e2; omega) (by have := HGO.out; have := HMV.out; clear e1 e2; omega)
       clear e1 e2
       omega) (fun q hq => by
       have h1 := hrt.out q hq
       have h2 := shf_range (f := dlt (oA s t) (oB s t) k) (i := k) (j := (k : Int) + 1) (x := a) (B := 20000000000) (C := 10000000000) (q := q) (by clear e1 e2; omega) (by have := hAB.out; clear e1 e2; omega)
       clear e1 e2
       omega)).mono ?_
     rintro e w6 ⟨_, rfl, hs6, z6⟩
     have hS3 := hid (show SH w6 W2.heap.size q12 q13 G H n y5 y11 (rowOf n (dlt (goR s t) (goL s t) (k + 1))) (rowOf n (dlt (oA s t) (oB s t) (k + 1))) by
      rw [← HA.out, ← HBB.out] at hs6
      rw [show dlt (goR s t) (goL s t) (k + 1) = _ from (funext (dlt_succ (goR s t) (goL s t) k)).symm, show dlt (oA s t) (oB s t) (k + 1) = _ from (funext (dlt_succ (oA s t) (oB s t) k)).symm]
      exact hs6)
     have hB3 := hid (z6.bw hB2.out hG hH)
     have hR3 := hid (oi_sh2 hR2.out z6 (by clear e1 e2; omega) (by clear e1 e2; omega))
     have hL3 := hid (oi_sh2 hL2.out z6 (by clear e1 e2; omega) (by clear e1 e2; omega))
     have hkk := hid (show k + 1 ≤ n ∧ n - (k + 1) < n - k by clear e1 e2; omega)
     clear xl1 hs6 z6 hS2 hB2 hR2 hL2 eg hrm hrt hAB hLAST hFIRST hZA hZB e2
     go_wp2
     go_roundw
     case rel => exact ⟨k + 1, hkk.out.1, by go_num, hS3, hB3, hR3, hL3⟩
     case measure => simp [intOf]; clear e1; omega
    ·obtain rfl : n = k := by omega
     have hBw := hid (HB0.out.trans hB.out)
     have hS1 := hid hS.out
     clear hS hB hR hL hGR2 hGL2 hS0 hB2
     have kp := hid ((hBw.out.out.block _ (blk_lt HP0.out)).trans HP0.out)
     have k2 := (blk_cell kp.out 2).trans (show _ = some (Value.slice (some ⟨gm, 0, none⟩) n cm) from rfl)
     have m0 := hid (HO0.out.1.to hBw.out)
     have m1 := hid (HO0.out.2.to hBw.out)
     have hW2 := hB0.out.size
     have hPm : P ≠ gm := fun e => own_ne m0.out.out kp.out (by decide) (by rw [e]; rfl)
     have hPt : P ≠ gt := fun e => own_ne m1.out.out kp.out (by decide) (by rw [e]; rfl)
     go_wp2_with fail
     clear k2
     generalize wr = W5 at *
     have hGm : gm < W2.heap.size ∧ gt < W2.heap.size := by have := HG.out; omega
     have hM0 := hid (show OI W5 lo (.slice (some ⟨gm, 0, none⟩) n cm) n (rowOf n (mixf (stM s t) (fun j => rd s.ms (j : Int)) 0)) by rw [mixf_zero, rowOf_self (by rw [hs.f.ms]; exact HN.out)]; exact m0.out)
     have hT0 := hid (show OI W5 lo (.slice (some ⟨gt, 0, none⟩) n ct) n (rowOf n (mixf (stT s t) (fun j => rd s.ts (j : Int)) 0)) by rw [mixf_zero, rowOf_self (by rw [hs.f.ts]; exact HN.out)]; exact m1.out)
     have HSM := hid (fun (j : Nat) (hj : j < n) => stM_dlt hs t j (by rw [HN.out]; exact hj))
     have HST := hid (fun (j : Nat) (hj : j < n) => stT_dlt (s := s) t j (by rw [HN.out]; exact hj))
     have HRM := hid (fun (j : Nat) (hj : j < n) => dlt_range (a := goR s t) (b := goL s t) (n := n) (k := n) (B := 10000000) (by omega) (fun i hi => by have h1 := go_range hs.f t i (by rw [HN.out]; exact hi); have h2 := hs.f.mv i (by rw [HN.out]; exact hi); omega) (Nat.le_refl _) hj)
     have HRT := hid (fun (j : Nat) (hj : j < n) => dlt_range (a := oA s t) (b := oB s t) (n := n) (k := n) (B := 10000000000) (by omega) (fun i hi => by have h1 := oAB_range hs t i (by rw [HN.out]; exact hi); omega) (Nat.le_refl _) hj)
     have HZ0 := hid (Sh2.refl W5 gm gt)
     go_loopw [125] (fun v125 wr => ∃ k : Nat, k ≤ n ∧ v125 = .int .i64 k ∧ Hid (Sh2 W5 wr gm gt) ∧ Hid (OI wr lo (.slice (some ⟨gm, 0, none⟩) n cm) n (rowOf n (mixf (stM s t) (fun j => rd s.ms (j : Int)) k))) ∧ Hid (OI wr lo (.slice (some ⟨gt, 0, none⟩) n ct) n (rowOf n (mixf (stT s t) (fun j => rd s.ts (j : Int)) k)))) (fun v125 _ => n - (intOf v125).toNat)
     case atStart => exact ⟨0, by omega, rfl, HZ0, hM0, hT0⟩
     case round =>
      obtain ⟨k, hk, rfl, hZ, hM, hT⟩ := hrel
      by_cases hlt : k < n
      ·have t1 : decide ((k : Int) < (n : Int)) = true := decide_eq_true (by omega)
       have kp2 := (hZ.out.block P hPm hPt).trans kp.out
       have g2 := (blk_cell kp2 2).trans (show _ = some (Value.slice (some ⟨gm, 0, none⟩) n cm) from rfl)
       have g3 := (blk_cell kp2 3).trans (show _ = some (Value.slice (some ⟨gt, 0, none⟩) n ct) from rfl)
       have bm := hZ.out.cell hS1.out.cm (show q12 ≠ gm by omega) (show q12 ≠ gt by omega)
       have bt := hZ.out.cell hS1.out.ct (show q13 ≠ gm by omega) (show q13 ≠ gt by omega)
       obtain ⟨xd, _⟩ := oi_cell (oi_sh2 hS1.out.m hZ.out (show G ≠ gm by omega) (show G ≠ gt by omega)) k hlt
       obtain ⟨yd, _⟩ := oi_cell (oi_sh2 hS1.out.t hZ.out (show H ≠ gm by omega) (show H ≠ gt by omega)) k hlt
       obtain ⟨xm, fm⟩ := oi_cell hM.out k hlt
       obtain ⟨ym, fy⟩ := oi_cell hT.out k hlt
       rw [rd_rowOf _ hlt] at xd yd xm ym
       rw [mixf_self] at xm ym
       have r1 := HSM.out k hlt
       have r2 := HST.out k hlt
       have r3 := HRM.out k hlt
       have r4 := HRT.out k hlt
       have r5 := hs.f.mv k (by rw [HN.out]; exact hlt)
       have r6 := hs.tv k (by rw [HN.out]; exact hlt)
       rw [HN.out] at r1 r2
       have hMn := hid (mixf_step (stM s t) (fun j => rd s.ms (j : Int)) n k)
       have hTn := hid (mixf_step (stT s t) (fun j => rd s.ts (j : Int)) n k)
       obtain ⟨a, ha⟩ : ∃ a, rd s.ms (k : Int) = a := ⟨_, rfl⟩
       obtain ⟨b, hb⟩ : ∃ b, rd s.ts (k : Int) = b := ⟨_, rfl⟩
       obtain ⟨d, hd⟩ : ∃ d, dlt (goR s t) (goL s t) n k = d := ⟨_, rfl⟩
       obtain ⟨e, he⟩ : ∃ e, dlt (oA s t) (oB s t) n k = e := ⟨_, rfl⟩
       rw [ha, hd] at r1
       rw [hb, he] at r2
       rw [hd] at r3 xd
       rw [he] at r4 yd
       rw [ha] at r5 r6 xm
       rw [hb] at r6 ym
       obtain ⟨x, hx⟩ : ∃ x, stM s t k = x := ⟨_, rfl⟩
       obtain ⟨y, hy⟩ : ∃ y, stT s t k = y := ⟨_, rfl⟩
       rw [hx] at r1 hMn
       rw [hy] at r2 hTn
       have e3 : IntKind.i64.wrap (a + d) = x := by rw [r1]; exact i64w (by omega) (by omega)
       have e4 : IntKind.i64.wrap (b + e) = y := by rw [r2]; exact i64w (by clear e3; omega) (by clear e3; omega)
       have e1 : IntKind.i64.wrap ((k : Int) + 1) = (k : Int) + 1 := i64w (by clear e3 e4; omega) (by clear e3 e4; omega)
       have i0 : (0 : Int) ≤ (k : Int) := by clear e3 e4 e1; omega
       have i1 : (k : Int) < (n : Int) := by clear e3 e4 e1; omega
       have hkk := hid (show k + 1 ≤ n ∧ n - (k + 1) < n - k by clear e1 e3 e4; omega)
       have HNE := hid (show (gm ≠ gt ∧ gt ≠ gm) ∧ (q13 ≠ gm ∧ H ≠ gm) ∧ P ≠ gm from ⟨⟨HG.out.2.2.1, fun e => HG.out.2.2.1 e.symm⟩, ⟨by clear e3 e4 e1; omega, by clear e3 e4 e1; omega⟩, hPm⟩)
       have Hb := hid hb
       clear ha hb hd he hx hy r1 r2 r3 r4 r5 r6 kp2
       have K3 := hid g3
       have Kb := hid bt
       have Kd := hid yd
       have Ky := hid (And.intro ym fy)
       have h1m := oi_store hM.out k x
       rw [hMn.out x rfl] at h1m
       have Z1 := hid ((hZ.out.set gm k (.int .i64 x) (Or.inl rfl)).dr)
       have bDr : Bw (wr.setCell ⟨gm, k, none⟩ (.int .i64 x)) (wr.setCell ⟨gm, k, none⟩ (.int .i64 x)).drew := Bw.drawn ⟨⟨1, rfl⟩⟩
       have M1 := hid (h1m.to bDr)
       have T1 := hid ((oi_off (i := k) (u := .int .i64 x) hT.out HNE.out.1.2).to bDr)
       have C3 := hid (pw_cell_below bDr.out (cell_offp (i := k) (u := .int .i64 x) (g := gm) g3 HNE.out.2.2))
       have Cb := hid (pw_cell_below bDr.out (cell_offp (i := k) (u := .int .i64 x) (g := gm) bt HNE.out.2.1.1))
       have Cd := hid (pw_cell_below bDr.out (cell_offp (i := k) (u := .int .i64 x) (g := gm) yd HNE.out.2.1.2))
       clear g3 bt yd ym fy K3 Kb Kd Ky h1m bDr hM hT hZ hMn
       go_upto_region 21 with fail
       refine start_ (n := 14) (S := fun w' => w'.cell? ⟨P, 2, none⟩ = some (.slice (some ⟨gm, 0, none⟩) n cm) ∧ w'.cell? ⟨gm, k, none⟩ = some (.int .i64 a) ∧ w'.cell? ⟨q12, 0, none⟩ = some (.slice (some ⟨G, 0, none⟩) n y5) ∧ w'.cell? ⟨G, k, none⟩ = some (.int .i64 d)) (ds := [13]) #[false, false, false, false, false, false, false, false, false, false, false, false, false, false] (by kernel_rfl) rfl rfl ⟨g2, xm, bm, xd⟩ (fun hHeld => ?_)
       refine pq_ (i := 0) (N := (some 128)) (v := ?_) (a' := ?_) rfl rfl (by kernel_rfl) (fun _ _ _ h => h) (Or.inl ⟨by rfl, ?_⟩) ?_ ?_
       rotate_left; (intro w'; go_simp; with_reducible rfl); rotate_left; (simp only [Act.put, s1_, s2_, s3_, i64_w, i32_w]; rfl)
       refine pq_ (i := 1) (N := (some 129)) (v := ?_) (a' := ?_) rfl rfl (by kernel_rfl) (fun _ _ _ h => h) (Or.inl ⟨by rfl, ?_⟩) ?_ ?_
       rotate_left; (intro w'; go_simp; with_reducible rfl); rotate_left; (simp only [Act.put, s1_, s2_, s3_, i64_w, i32_w]; rfl)
       refine pq_ (i := 2) (N := (some 130)) (v := ?_) (a' := ?_) rfl rfl (by kernel_rfl) (fun _ _ _ h => h) (Or.inl ⟨by rfl, ?_⟩) ?_ ?_
       rotate_left; (intro w'; go_simp; with_reducible rfl); rotate_left; (simp only [Act.put, s1_, s2_, s3_, i64_w, i32_w]; rfl)
       refine tq_ (i := 3) (N := (some 131)) (v := ?_) (a' := ?_) rfl rfl (by kernel_rfl) (fun _ _ _ h => h) (Or.inl ⟨by rfl, ?_⟩) hHeld ?_ ?_
       rotate_left; (rintro w' ⟨s0, s1, s2, s3⟩; go_simp; with_reducible rfl); rotate_left; (simp only [Act.put, s1_, s2_, s3_, i64_w, i32_w]; rfl)
       refine pq_ (i := 4) (N := (some 132)) (v := ?_) (a' := ?_) rfl rfl (by kernel_rfl) (fun _ _ _ h => h) (Or.inl ⟨by rfl, ?_⟩) ?_ ?_
       rotate_left; (intro w'; go_simp; with_reducible rfl); rotate_left; (simp only [Act.put, s1_, s2_, s3_, i64_w, i32_w]; rfl)
       refine pq_ (i := 5) (N := (some 133)) (v := ?_) (a' := ?_) rfl rfl (by kernel_rfl) (fun _ _ _ h => h) (Or.inl ⟨by rfl, ?_⟩) ?_ ?_
       rotate_left; (intro w'; go_simp; with_reducible rfl); rotate_left; (simp only [Act.put, s1_, s2_, s3_, i64_w, i32_w]; rfl)
       refine tq_ (i := 6) (N := (some 134)) (v := ?_) (a' := ?_) rfl rfl (by kernel_rfl) (fun _ _ _ h => h) (Or.inl ⟨by rfl, ?_⟩) hHeld ?_ ?_
       rotate_left; (rintro w' ⟨s0, s1, s2, s3⟩; go_simp; with_reducible rfl); rotate_left; (simp only [Act.put, s1_, s2_, s3_, i64_w, i32_w]; rfl)
       refine tq_ (i := 7) (N := (some 135)) (v := ?_) (a' := ?_) rfl rfl (by kernel_rfl) (fun _ _ _ h => h) (Or.inl ⟨by rfl, ?_⟩) hHeld ?_ ?_
       rotate_left; (rintro w' ⟨s0, s1, s2, s3⟩; go_simp; with_reducible rfl); rotate_left; (simp only [Act.put, s1_, s2_, s3_, i64_w, i32_w]; rfl)
       refine pq_ (i := 8) (N := (some 136)) (v := ?_) (a' := ?_) rfl rfl (by kernel_rfl) (fun _ _ _ h => h) (Or.inl ⟨by rfl, ?_⟩) ?_ ?_
       rotate_left; (intro w'; go_simp; with_reducible rfl); rotate_left; (simp only [Act.put, s1_, s2_, s3_, i64_w, i32_w]; rfl)
       refine pq_ (i := 9) (N := (some 137)) (v := ?_) (a' := ?_) rfl rfl (by kernel_rfl) (fun _ _ _ h => h) (Or.inl ⟨by rfl, ?_⟩) ?_ ?_
       rotate_left; (intro w'; go_simp; with_reducible rfl); rotate_left; (simp only [Act.put, s1_, s2_, s3_, i64_w, i32_w]; rfl)
       refine tq_ (i := 10) (N := (some 138)) (v := ?_) (a' := ?_) rfl rfl (by kernel_rfl) (fun _ _ _ h => h) (Or.inl ⟨by rfl, ?_⟩) hHeld ?_ ?_
       rotate_left; (rintro w' ⟨s0, s1, s2, s3⟩; go_simp; with_reducible rfl); rotate_left; (simp only [Act.put, s1_, s2_, s3_, i64_w, i32_w]; rfl)
       refine pq_ (i := 11) (N := (some 139)) (v := ?_) (a' := ?_) rfl rfl (by kernel_rfl) (fun _ _ _ h => h) (Or.inl ⟨by rfl, ?_⟩) ?_ ?_
       rotate_left; (intro w'; go_simp; with_reducible rfl); rotate_left; (simp only [Act.put, s1_, s2_, s3_, i64_w, i32_w]; rfl)
       refine pq_ (i := 12) (N := (some 140)) (v := ?_) (a' := ?_) rfl rfl (by kernel_rfl) (fun _ _ _ h => h) (Or.inl ⟨by rfl, ?_⟩) ?_ ?_
       rotate_left; (intro w'; go_simp; with_reducible rfl); rotate_left; (simp only [Act.put, s1_, s2_, s3_, i64_w, i32_w]; rfl)
       clear hHeld
       refine last_ (i := 13) (N := none) #[true, true, true, true, true, true, true, true, true, true, true, true, true, true] rfl rfl (by kernel_rfl) (by decide) (fun K hK => ?_)
       refine skip_ (w1 := ?_) (by rfl) rfl ?_ ?_
       rotate_left
       ·go_simp
        rfl
       refine hK.out _ _ ?_
       clear hK K
       refine done_ (by kernel_rfl) ?_
       generalize (wr.setCell ⟨gm, k, none⟩ (.int .i64 x)).drew = W6 at *
       clear g2 bm xd xm fm e3
       have g3 := C3.out
       have bt := Cb.out
       have yd := Cd.out
       obtain ⟨ym, fy⟩ := oi_cell T1.out k (by clear e1 e4; omega)
       rw [rd_rowOf _ (by clear e1 e4; omega), mixf_self, Hb.out] at ym
       have h2t := oi_store T1.out k y
       rw [hTn.out y rfl] at h2t
       have bDr : Bw (W6.setCell ⟨gt, k, none⟩ (.int .i64 y)) (W6.setCell ⟨gt, k, none⟩ (.int .i64 y)).drew := Bw.drawn ⟨⟨1, rfl⟩⟩
       have Z2 := hid ((Z1.out.set gt k (.int .i64 y) (Or.inr rfl)).dr)
       have T2 := hid (h2t.to bDr)
       have M2 := hid ((oi_off (i := k) (u := .int .i64 y) M1.out HNE.out.1.1).to bDr)
       clear h2t bDr hTn Z1 M1 T1 C3 Cb Cd
       go_upto_region 22 with fail
       refine start_ (n := 14) (S := fun w' => w'.cell? ⟨P, 3, none⟩ = some (.slice (some ⟨gt, 0, none⟩) n ct) ∧ w'.cell? ⟨gt, k, none⟩ = some (.int .i64 b) ∧ w'.cell? ⟨q13, 0, none⟩ = some (.slice (some ⟨H, 0, none⟩) n y11) ∧ w'.cell? ⟨H, k, none⟩ = some (.int .i64 e)) (ds := [13]) #[false, false, false, false, false, false, false, false, false, false, false, false, false, false] (by kernel_rfl) rfl rfl ⟨g3, ym, bt, yd⟩ (fun hHeld => ?_)
       refine pq_ (i := 0) (N := (some 141)) (v := ?_) (a' := ?_) rfl rfl (by kernel_rfl) (fun _ _ _ h => h) (Or.inl ⟨by rfl, ?_⟩) ?_ ?_
       rotate_left; (intro w'; go_simp; with_reducible rfl); rotate_left; (simp only [Act.put, s1_, s2_, s3_, i64_w, i32_w]; rfl)
       refine pq_ (i := 1) (N := (some 142)) (v := ?_) (a' := ?_) rfl rfl (by kernel_rfl) (fun _ _ _ h => h) (Or.inl ⟨by rfl, ?_⟩) ?_ ?_
       rotate_left; (intro w'; go_simp; with_reducible rfl); rotate_left; (simp only [Act.put, s1_, s2_, s3_, i64_w, i32_w]; rfl)
       refine pq_ (i := 2) (N := (some 143)) (v := ?_) (a' := ?_) rfl rfl (by kernel_rfl) (fun _ _ _ h => h) (Or.inl ⟨by rfl, ?_⟩) ?_ ?_
       rotate_left; (intro w'; go_simp; with_reducible rfl); rotate_left; (simp only [Act.put, s1_, s2_, s3_, i64_w, i32_w]; rfl)
       refine tq_ (i := 3) (N := (some 144)) (v := ?_) (a' := ?_) rfl rfl (by kernel_rfl) (fun _ _ _ h => h) (Or.inl ⟨by rfl, ?_⟩) hHeld ?_ ?_
       rotate_left; (rintro w' ⟨s0, s1, s2, s3⟩; go_simp; with_reducible rfl); rotate_left; (simp only [Act.put, s1_, s2_, s3_, i64_w, i32_w]; rfl)
       refine pq_ (i := 4) (N := (some 145)) (v := ?_) (a' := ?_) rfl rfl (by kernel_rfl) (fun _ _ _ h => h) (Or.inl ⟨by rfl, ?_⟩) ?_ ?_
       rotate_left; (intro w'; go_simp; with_reducible rfl); rotate_left; (simp only [Act.put, s1_, s2_, s3_, i64_w, i32_w]; rfl)
       refine pq_ (i := 5) (N := (some 146)) (v := ?_) (a' := ?_) rfl rfl (by kernel_rfl) (fun _ _ _ h => h) (Or.inl ⟨by rfl, ?_⟩) ?_ ?_
       rotate_left; (intro w'; go_simp; with_reducible rfl); rotate_left; (simp only [Act.put, s1_, s2_, s3_, i64_w, i32_w]; rfl)
       refine tq_ (i := 6) (N := (some 147)) (v := ?_) (a' := ?_) rfl rfl (by kernel_rfl) (fun _ _ _ h => h) (Or.inl ⟨by rfl, ?_⟩) hHeld ?_ ?_
       rotate_left; (rintro w' ⟨s0, s1, s2, s3⟩; go_simp; with_reducible rfl); rotate_left; (simp only [Act.put, s1_, s2_, s3_, i64_w, i32_w]; rfl)
       refine tq_ (i := 7) (N := (some 148)) (v := ?_) (a' := ?_) rfl rfl (by kernel_rfl) (fun _ _ _ h => h) (Or.inl ⟨by rfl, ?_⟩) hHeld ?_ ?_
       rotate_left; (rintro w' ⟨s0, s1, s2, s3⟩; go_simp; with_reducible rfl); rotate_left; (simp only [Act.put, s1_, s2_, s3_, i64_w, i32_w]; rfl)
       refine pq_ (i := 8) (N := (some 149)) (v := ?_) (a' := ?_) rfl rfl (by kernel_rfl) (fun _ _ _ h => h) (Or.inl ⟨by rfl, ?_⟩) ?_ ?_
       rotate_left; (intro w'; go_simp; with_reducible rfl); rotate_left; (simp only [Act.put, s1_, s2_, s3_, i64_w, i32_w]; rfl)
       refine pq_ (i := 9) (N := (some 150)) (v := ?_) (a' := ?_) rfl rfl (by kernel_rfl) (fun _ _ _ h => h) (Or.inl ⟨by rfl, ?_⟩) ?_ ?_
       rotate_left; (intro w'; go_simp; with_reducible rfl); rotate_left; (simp only [Act.put, s1_, s2_, s3_, i64_w, i32_w]; rfl)
       refine tq_ (i := 10) (N := (some 151)) (v := ?_) (a' := ?_) rfl rfl (by kernel_rfl) (fun _ _ _ h => h) (Or.inl ⟨by rfl, ?_⟩) hHeld ?_ ?_
       rotate_left; (rintro w' ⟨s0, s1, s2, s3⟩; go_simp; with_reducible rfl); rotate_left; (simp only [Act.put, s1_, s2_, s3_, i64_w, i32_w]; rfl)
       refine pq_ (i := 11) (N := (some 152)) (v := ?_) (a' := ?_) rfl rfl (by kernel_rfl) (fun _ _ _ h => h) (Or.inl ⟨by rfl, ?_⟩) ?_ ?_
       rotate_left; (intro w'; go_simp; with_reducible rfl); rotate_left; (simp only [Act.put, s1_, s2_, s3_, i64_w, i32_w]; rfl)
       refine pq_ (i := 12) (N := (some 153)) (v := ?_) (a' := ?_) rfl rfl (by kernel_rfl) (fun _ _ _ h => h) (Or.inl ⟨by rfl, ?_⟩) ?_ ?_
       rotate_left; (intro w'; go_simp; with_reducible rfl); rotate_left; (simp only [Act.put, s1_, s2_, s3_, i64_w, i32_w]; rfl)
       clear hHeld
       refine last_ (i := 13) (N := none) #[true, true, true, true, true, true, true, true, true, true, true, true, true, true] rfl rfl (by kernel_rfl) (by decide) (fun K hK => ?_)
       refine skip_ (w1 := ?_) (by rfl) rfl ?_ ?_
       rotate_left
       ·go_simp
        rfl
       refine hK.out _ _ ?_
       clear hK K
       refine done_ (by kernel_rfl) ?_
       generalize (W6.setCell ⟨gt, k, none⟩ (.int .i64 y)).drew = W7 at *
       clear g3 bt yd ym fy e4
       go_wp2
       go_roundw
       case rel => exact ⟨k + 1, hkk.out.1, by go_num, Z2, M2, T2⟩
       case measure => simp [intOf]; clear e1; omega
      ·obtain rfl : n = k := by omega
       have t1 : decide ((n : Int) < (n : Int)) = false := decide_eq_false (by omega)
       go_wp2
       exact bodyPost_end (v := .tuple #[]) (by simp [results, Try.results27, go_sem]) rfl ⟨_, rfl, W5, by rw [hW1]; exact hBw.out, hZ.out, by rw [← rowOf_congr (fun j hj => mixf_all (stM s t) (fun j => rd s.ms (j : Int)) hj)]; exact hM.out, by rw [← rowOf_congr (fun j hj => mixf_all (stT s t) (fun j => rd s.ts (j : Int)) hj)]; exact hT.out⟩
end Go.Proofs.Ytkendhkaheoinaa.U
set_option linter.unusedVariables false
set_option linter.unusedSimpArgs false
namespace Go.Proofs.Ytkendhkaheoinaa.U
open Go.RowKit Go.Lib Go.Proofs.YtkendhkaheoinaaW.PrintWords
structure Uw (w w' : World) (A B : Nat) : Prop where
 os : w'.os = w.os
 tape : w'.tape = w.tape
 output : w'.output = w.output
 size : w.heap.size ≤ w'.heap.size
 block : ∀ b, b < w.heap.size → b ≠ A → b ≠ B → w'.heap[b]? = w.heap[b]?
theorem Uw.refl (w : World) (A B : Nat) : Uw w w A B := ⟨rfl, rfl, rfl, Nat.le_refl _, fun _ _ _ _ => rfl⟩
theorem Uw.bw {w w' w2 : World} {A B : Nat} (h : Uw w w' A B) (b : Bw w' w2) : Uw w w2 A B := ⟨b.out.os.trans h.os, b.out.tape.trans h.tape, b.out.output.trans h.output, Nat.le_trans h.size b.size, fun k hk h1 h2 => (b.out.block k (Nat.lt_of_lt_of_le hk h.size)).trans (h.block k hk h1 h2)⟩
theorem Uw.set {w w' : World} {A B : Nat} (h : Uw w w' A B) (g i : Nat) (u : Value) (hg : g = A ∨ g = B) : Uw w (w'.setCell ⟨g, i, none⟩ u) A B := ⟨h.os, h.tape, h.output, Nat.le_trans h.size (by simp [World.setCell]), fun k hk h1 h2 => (Below.heap_setCell w' ⟨g, i, none⟩ u k (fun e => by simp at e; omega)).trans (h.block k hk h1 h2)⟩
theorem Uw.to {W w w' : World} {A B : Nat} (h : Uw w w' A B) (b : Bw W w) (hA : W.heap.size ≤ A) (hB : W.heap.size ≤ B) : Bw W w' := ⟨⟨h.os.trans b.out.os, h.tape.trans b.out.tape, h.output.trans b.out.output, Nat.le_trans b.out.size h.size, fun k hk => (h.block k (Nat.lt_of_lt_of_le hk b.out.size) (by omega) (by omega)).trans (b.out.block k hk)⟩⟩
theorem Uw.blk {w w' : World} {A B b : Nat} {o : Obj} (h : Uw w w' A B) (hb : w.heap[b]? = some o) (h1 : b ≠ A) (h2 : b ≠ B) : w'.heap[b]? = some o := (h.block b (blk_lt hb) h1 h2).trans hb
theorem Uw.oi {w w' : World} {A B base n : Nat} {v : Value} {F : List Int} (h : Uw w w' A B) (o : OI w base v n F) (h1 : ∀ b, v.ownBlock = some b → b ≠ A ∧ b ≠ B) : OI w' base v n F := ⟨own_move o.out fun q hq => h.block q (own_lt o.out q hq) (h1 q hq).1 (h1 q hq).2⟩
end Go.Proofs.Ytkendhkaheoinaa.U
