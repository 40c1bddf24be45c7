
/- Fluxes between two leaves. -/
import Derived.Test.YtkhjkcefkampkaaG2
import Derived.Test.YtkhjkcefkampkaaG5
import Derived.Test.YtkhjkcefkampkaaUb
import Derived.Test.YtkhjkcefkampkaaG8
import Derived.Test.YtkhjkcefkampkaaG6
import Derived.Test.YtkhjkcefkampkaaWInvWords
set_option linter.unusedVariables false
set_option linter.unusedSimpArgs false
namespace Go.Proofs.Ytkhjkcefkampkaa.U
open Go.RowKit Go.Lib Go.Proofs.YtkhjkcefkampkaaW.PrintWords
attribute [local go_sem] go_max2 go_min2
theorem tdiv_range {a b : Int} (h : -1000000000000000 ≤ a ∧ a ≤ 1000000000000000) (hb : 0 < b) : -1000000000000000 ≤ Int.tdiv a b ∧ Int.tdiv a b ≤ 1000000000000000 := by
 rcases Int.lt_or_le a 0 with h0 | h0
 ·have e : Int.tdiv a b = -(Int.tdiv (-a) b) := by rw [Int.neg_tdiv]; omega
  have h1 := Int.tdiv_nonneg (show 0 ≤ -a by omega) (Int.le_of_lt hb)
  have h2 : Int.tdiv (-a) b ≤ -a := by
   rw [Int.tdiv_eq_ediv_of_nonneg (by omega)]
   exact Int.ediv_le_self _ (by omega)
  omega
 ·have h1 := Int.tdiv_nonneg h0 (Int.le_of_lt hb)
  have h2 : Int.tdiv a b ≤ a := by
   rw [Int.tdiv_eq_ediv_of_nonneg h0]
   exact Int.ediv_le_self _ h0
  omega
theorem wid_pos {l : Int} (h : 0 ≤ l ∧ l ≤ 4) : 1 ≤ wid l := by
 have : l = 0 ∨ l = 1 ∨ l = 2 ∨ l = 3 ∨ l = 4 := by omega
 rcases this with e | e | e | e | e <;> rw [e] <;> decide
def actB (t l : Int) : Bool := inR l 0 4 && (decide (t ≥ 0) && (Int.tmod t (wid l) == 0))
theorem impl_IsActive (t l : Int) (w : World) (ht : t ≤ 9223372036854775807) :
  Calls Try.prog 63 #[.int .i64 t, .int .i64 l] w fun e w' => e = .returned (.bool (actB t l)) ∧ w = w' := by
 cases h : inR l 0 4 with
 | false =>
  have HR := hid (show actB t l = false by rw [actB, h]; rfl)
  have H := hid h
  clear h
  go_enter Try.func63, Try.ntmps63
  go_wp2_with fail
  refine (toBool (isLevel l _) H.out).mono ?_
  rintro e w1 ⟨rfl, rfl⟩
  go_wp2
  go_ret
  exact ⟨ret_bool HR.out.symm, rfl⟩
 | true =>
  have hw := wid_pos (inR_iff.1 h)
  have H := hid h
  cases h2 : decide (t ≥ 0) with
  | false =>
   have HR := hid (show actB t l = false by rw [actB, h, h2]; rfl)
   clear h
   go_enter Try.func63, Try.ntmps63
   go_wp2_with fail
   refine (toBool (isLevel l _) H.out).mono ?_
   rintro e w1 ⟨rfl, rfl⟩
   go_wp2
   go_ret
   exact ⟨ret_bool HR.out.symm, rfl⟩
  | true =>
   have HR := hid (show actB t l = (Int.tmod t (wid l) == 0) by rw [actB, h, h2]; simp)
   have hz : (wid l == 0) = false := by simp; omega
   clear h
   go_enter Try.func63, Try.ntmps63
   go_wp2_with fail
   refine (toBool (isLevel l _) H.out).mono ?_
   rintro e w1 ⟨rfl, rfl⟩
   go_wp2_with fail
   refine (impl_WidthOf l _).mono ?_
   rintro e w1 ⟨rfl, rfl⟩
   go_wp2
   go_ret
   exact ⟨ret_bool HR.out.symm, rfl⟩
theorem spec_IsActive (t l : Int) (w : World) (ht : t ≤ 9223372036854775807) :
  Calls Try.prog 88 #[.int .i64 t, .int .i64 l] w fun e w' => e = .returned (.bool (actB t l)) ∧ w = w' := by
 cases h2 : decide (t ≥ 0) with
 | false =>
  have HR := hid (show actB t l = false by rw [actB, h2]; simp)
  go_enter Try.func88, Try.ntmps88
  go_wp2_with fail
  refine (spec_WidthOf l _).mono ?_
  rintro e w1 ⟨rfl, rfl⟩
  go_wp2
  go_ret
  exact ⟨ret_bool HR.out.symm, rfl⟩
 | true =>
  cases h : inR l 0 4 with
  | false =>
   have HR := hid (show actB t l = false by rw [actB, h]; rfl)
   have hw : wid l = 0 := by
    have h3 := inR_false h
    unfold wid
    rw [if_neg (by omega), if_neg (by omega), if_neg (by omega), if_neg (by omega), if_neg (by omega)]
   have hd : decide (0 < wid l) = false := decide_eq_false (by omega)
   have hd2 : decide (wid l > 0) = false := decide_eq_false (by omega)
   clear h hw
   go_enter Try.func88, Try.ntmps88
   go_wp2_with fail
   refine (spec_WidthOf l _).mono ?_
   rintro e w1 ⟨rfl, rfl⟩
   go_wp2
   go_ret
   exact ⟨ret_bool HR.out.symm, rfl⟩
  | true =>
   have hw := wid_pos (inR_iff.1 h)
   have HR := hid (show actB t l = (Int.tmod t (wid l) == 0) by rw [actB, h, h2]; simp)
   have hd : decide (0 < wid l) = true := decide_eq_true (by omega)
   have hd2 : decide (wid l > 0) = true := decide_eq_true (by omega)
   have hz : (wid l == 0) = false := by simp; omega
   clear h
   go_enter Try.func88, Try.ntmps88
   go_wp2_with fail
   refine (spec_WidthOf l _).mono ?_
   rintro e w1 ⟨rfl, rfl⟩
   go_wp2
   go_ret
   exact ⟨ret_bool HR.out.symm, rfl⟩
theorem impl_DivTrunc (a b : Int) (w : World) (h : -1000000000000000 ≤ a ∧ a ≤ 1000000000000000) (hb : 0 < b) :
  Calls Try.prog 125 #[.int .i64 a, .int .i64 b] w fun e w' => e = .returned (.int .i64 (Int.tdiv a b)) ∧ w = w' := by
 have t1 : decide (b ≤ 0) = false := decide_eq_false (by omega)
 have t2 : (b == 0) = false := by simp; omega
 have hq := tdiv_range h hb
 have e1 : IntKind.i64.wrap (Int.tdiv a b) = Int.tdiv a b := i64w (by omega) (by omega)
 clear hq
 go_enter Try.func125, Try.ntmps125
 go_wp2
 go_ret
 exact ⟨rfl, rfl⟩
theorem impl_ClampN (x lo hi : Int) (w : World) (h : lo ≤ hi) :
  Calls Try.prog 126 #[.int .i64 x, .int .i64 lo, .int .i64 hi] w fun e w' => e = .returned (.int .i64 (smallMin (bigMax x lo) hi)) ∧ w = w' := by
 have t1 : decide (hi < lo) = false := decide_eq_false (by omega)
 go_enter Try.func126, Try.ntmps126
 go_wp2
 go_ret
 exact ⟨rfl, rfl⟩
theorem spec_DivTrunc (a b : Int) (w : World) (h : -1000000000000000 ≤ a ∧ a ≤ 1000000000000000) (hb : 0 < b) :
  Calls Try.prog 124 #[.int .i64 a, .int .i64 b] w fun e w' => e = .returned (.int .i64 (Int.tdiv a b)) ∧ w = w' := by
 have t1 : decide (b ≤ 0) = false := decide_eq_false (by omega)
 have t2 : (b == 0) = false := by simp; omega
 have hq := tdiv_range h hb
 have e1 : IntKind.i64.wrap (Int.tdiv a b) = Int.tdiv a b := i64w (by omega) (by omega)
 clear hq
 go_enter Try.func124, Try.ntmps124
 go_wp2
 go_ret
 exact ⟨rfl, rfl⟩
def pairF (sa sb ma mb la lb : Int) : Int := bigMax (smallMin (Int.tdiv ((sa - sb) * wid (bigMax la lb)) (32 * (wid la + wid lb))) (Int.tdiv ma 4)) (-(Int.tdiv mb 4))
structure FxOk (sa sb ma mb la lb : Int) : Prop where
 la : 0 ≤ la ∧ la ≤ 4
 lb : 0 ≤ lb ∧ lb ≤ 4
 ma : 0 ≤ ma ∧ ma ≤ 1000000000
 mb : 0 ≤ mb ∧ mb ≤ 1000000000
 sa : 0 ≤ sa ∧ sa ≤ 100000000000
 sb : 0 ≤ sb ∧ sb ≤ 100000000000
theorem FxOk.num {sa sb ma mb la lb : Int} (h : FxOk sa sb ma mb la lb) : -10000000000000 ≤ (sa - sb) * wid (bigMax la lb) ∧ (sa - sb) * wid (bigMax la lb) ≤ 10000000000000 := by
 have h1 := wid_range (bigMax la lb)
 have h2 := h.sa
 have h3 := h.sb
 have h4 : (sa - sb) * wid (bigMax la lb) ≤ 100000000000 * wid (bigMax la lb) := Int.mul_le_mul_of_nonneg_right (by omega) h1.1
 have h5 : (-100000000000) * wid (bigMax la lb) ≤ (sa - sb) * wid (bigMax la lb) := Int.mul_le_mul_of_nonneg_right (by omega) h1.1
 omega
set_option maxHeartbeats 4000000 in
theorem spec_l09Pair (sa sb ma mb la lb : Int) (w : World) (h : FxOk sa sb ma mb la lb) :
  Calls Try.prog 89 #[.int .i64 sa, .int .i64 sb, .int .i64 ma, .int .i64 mb, .int .i64 la, .int .i64 lb] w fun e w' => e = .returned (.int .i64 (pairF sa sb ma mb la lb)) ∧ w = w' := by
 have hn := h.num
 have hwa := wid_range la
 have hwb := wid_range lb
 have hwa1 := wid_pos h.la
 have hwb1 := wid_pos h.lb
 have h1 := h.sa
 have h2 := h.sb
 have h3 := h.ma
 have h4 := h.mb
 obtain ⟨F, hF⟩ : ∃ F, pairF sa sb ma mb la lb = F := ⟨_, rfl⟩
 have HF := hid hF
 rw [hF]
 have HQR := hid (show -1000000000000000 ≤ (sa - sb) * wid (bigMax la lb) ∧ (sa - sb) * wid (bigMax la lb) ≤ 1000000000000000 by omega)
 have HQP := hid (show 0 < 32 * (wid la + wid lb) by omega)
 have hm4 := tdiv_range (a := mb) (b := 4) (by omega) (by omega)
 have hm5 := Int.tdiv_nonneg h4.1 (show (0 : Int) ≤ 4 by omega)
 have e1 : IntKind.i64.wrap (sa - sb) = sa - sb := i64w (by omega) (by omega)
 have e2 : IntKind.i64.wrap ((sa - sb) * wid (bigMax la lb)) = (sa - sb) * wid (bigMax la lb) := by clear e1; exact i64w (by omega) (by omega)
 have e3 : IntKind.i64.wrap (wid la + wid lb) = wid la + wid lb := by clear e1 e2; exact i64w (by omega) (by omega)
 have e4 : IntKind.i64.wrap (32 * (wid la + wid lb)) = 32 * (wid la + wid lb) := by clear e1 e2 e3; exact i64w (by omega) (by omega)
 have e5 : IntKind.i64.wrap (-(Int.tdiv mb 4)) = -(Int.tdiv mb 4) := by clear e1 e2 e3 e4; exact i64w (by omega) (by omega)
 have e6 : IntKind.i64.wrap (Int.tdiv ma 4) = Int.tdiv ma 4 := by
  clear e1 e2 e3 e4 e5
  have := tdiv_range (a := ma) (b := 4) (by omega) (by omega)
  exact i64w (by omega) (by omega)
 have e7 : IntKind.i64.wrap (Int.tdiv mb 4) = Int.tdiv mb 4 := by clear e1 e2 e3 e4 e5 e6; exact i64w (by omega) (by omega)
 clear hn hwa hwb hwa1 hwb1 h1 h2 h3 h4 hm4 hm5 hF h
 go_enter Try.func89, Try.ntmps89
 go_wp2_with fail
 refine (spec_WidthOf _ _).mono ?_
 rintro e w1 ⟨rfl, rfl⟩
 go_wp2_with fail
 refine (spec_WidthOf _ _).mono ?_
 rintro e w1 ⟨rfl, rfl⟩
 go_wp2_with fail
 refine (spec_WidthOf _ _).mono ?_
 rintro e w1 ⟨rfl, rfl⟩
 go_wp2_with fail
 refine (spec_DivTrunc _ _ _ HQR.out HQP.out).mono ?_
 rintro e w1 ⟨rfl, rfl⟩
 go_wp2
 go_ret
 exact ⟨ret_int (by rw [← HF.out, pairF]), rfl⟩
theorem pairF_clamp {q lo hi : Int} (h : lo ≤ hi) : smallMin (bigMax q lo) hi = bigMax (smallMin q hi) lo := by
 simp only [smallMin_min, bigMax_max]
 omega
set_option maxHeartbeats 4000000 in
theorem impl_flux (sa sb ma mb la lb : Int) (w : World) (h : FxOk sa sb ma mb la lb) :
  Calls Try.prog 95 #[.agg #[.int .i64 la, .int .i64 ma, .int .i64 sa], .agg #[.int .i64 lb, .int .i64 mb, .int .i64 sb]] w fun e w' => e = .returned (.int .i64 (pairF sa sb ma mb la lb)) ∧ Bw w w' := by
 have hn := h.num
 have hwa := wid_range la
 have hwb := wid_range lb
 have hwa1 := wid_pos h.la
 have hwb1 := wid_pos h.lb
 have h1 := h.sa
 have h2 := h.sb
 have h3 := h.ma
 have h4 := h.mb
 have HQR := hid (show -1000000000000000 ≤ (sa - sb) * wid (bigMax la lb) ∧ (sa - sb) * wid (bigMax la lb) ≤ 1000000000000000 by omega)
 have HQP := hid (show 0 < 32 * (wid la + wid lb) by omega)
 have hm4 := tdiv_range (a := mb) (b := 4) (by omega) (by omega)
 have hm5 := Int.tdiv_nonneg h4.1 (show (0 : Int) ≤ 4 by omega)
 have hm6 := Int.tdiv_nonneg h3.1 (show (0 : Int) ≤ 4 by omega)
 have HLH := hid (show -(Int.tdiv mb 4) ≤ Int.tdiv ma 4 by omega)
 have HF := hid (show smallMin (bigMax (Int.tdiv ((sa - sb) * wid (bigMax la lb)) (32 * (wid la + wid lb))) (-(Int.tdiv mb 4))) (Int.tdiv ma 4) = pairF sa sb ma mb la lb by rw [pairF_clamp HLH.out, pairF])
 have e1 : IntKind.i64.wrap (sa - sb) = sa - sb := i64w (by omega) (by omega)
 have e2 : IntKind.i64.wrap ((sa - sb) * wid (bigMax la lb)) = (sa - sb) * wid (bigMax la lb) := by clear e1; exact i64w (by omega) (by omega)
 have e3 : IntKind.i64.wrap (wid la + wid lb) = wid la + wid lb := by clear e1 e2; exact i64w (by omega) (by omega)
 have e4 : IntKind.i64.wrap (32 * (wid la + wid lb)) = 32 * (wid la + wid lb) := by clear e1 e2 e3; exact i64w (by omega) (by omega)
 have e5 : IntKind.i64.wrap (-(Int.tdiv mb 4)) = -(Int.tdiv mb 4) := by clear e1 e2 e3 e4; exact i64w (by omega) (by omega)
 have e6 : IntKind.i64.wrap (Int.tdiv ma 4) = Int.tdiv ma 4 := by
  clear e1 e2 e3 e4 e5
  have := tdiv_range (a := ma) (b := 4) (by omega) (by omega)
  exact i64w (by omega) (by omega)
 have e7 : IntKind.i64.wrap (Int.tdiv mb 4) = Int.tdiv mb 4 := by clear e1 e2 e3 e4 e5 e6; exact i64w (by omega) (by omega)
 have b0 := (Bw.box1 w (.cells #[.int .i64 la, .int .i64 ma, .int .i64 sa] 79)).alloc (.cells #[.int .i64 lb, .int .i64 mb, .int .i64 sb] 79)
 have g0 := box_cell ((Bw.refl (w.alloc (.cells #[.int .i64 la, .int .i64 ma, .int .i64 sa] 79))).alloc (.cells #[.int .i64 lb, .int .i64 mb, .int .i64 sb] 79)) 0
 have g1 := box_cell ((Bw.refl (w.alloc (.cells #[.int .i64 la, .int .i64 ma, .int .i64 sa] 79))).alloc (.cells #[.int .i64 lb, .int .i64 mb, .int .i64 sb] 79)) 1
 have g2 := box_cell ((Bw.refl (w.alloc (.cells #[.int .i64 la, .int .i64 ma, .int .i64 sa] 79))).alloc (.cells #[.int .i64 lb, .int .i64 mb, .int .i64 sb] 79)) 2
 have k0 := box_cell (Bw.refl ((w.alloc (.cells #[.int .i64 la, .int .i64 ma, .int .i64 sa] 79)).alloc (.cells #[.int .i64 lb, .int .i64 mb, .int .i64 sb] 79))) 0
 have k1 := box_cell (Bw.refl ((w.alloc (.cells #[.int .i64 la, .int .i64 ma, .int .i64 sa] 79)).alloc (.cells #[.int .i64 lb, .int .i64 mb, .int .i64 sb] 79))) 1
 have k2 := box_cell (Bw.refl ((w.alloc (.cells #[.int .i64 la, .int .i64 ma, .int .i64 sa] 79)).alloc (.cells #[.int .i64 lb, .int .i64 mb, .int .i64 sb] 79))) 2
 simp only [List.getElem?_toArray, List.getElem?_cons_zero, List.getElem?_cons_succ] at g0 g1 g2 k0 k1 k2
 rw [show (w.alloc (.cells #[.int .i64 la, .int .i64 ma, .int .i64 sa] 79)).heap.size = w.heap.size + 1 by simp] at k0 k1 k2
 clear hn hwa hwb hwa1 hwb1 h1 h2 h3 h4 hm4 hm5 hm6 h
 go_enter Try.func95, Try.ntmps95
 go_upto_region 1 with fail
 generalize ((w.alloc (.cells #[.int .i64 la, .int .i64 ma, .int .i64 sa] 79)).alloc (.cells #[.int .i64 lb, .int .i64 mb, .int .i64 sb] 79)) = W1 at *
 go_quiet ((go_at_call 104; exact Calls.quiet_of_same ((impl_WidthOf _ _).mono fun e w' h => ⟨h.1, h.2.symm⟩)))
 go_upto_region 2 with fail
 have b1 : Bw W1 (W1.drewN nq) := Bw.drawn ⟨⟨nq, rfl⟩⟩
 replace g0 := pw_cell_below b1.out g0
 replace g1 := pw_cell_below b1.out g1
 replace g2 := pw_cell_below b1.out g2
 replace k0 := pw_cell_below b1.out k0
 replace k1 := pw_cell_below b1.out k1
 replace k2 := pw_cell_below b1.out k2
 replace b0 := b0.trans b1
 clear b1
 generalize (W1.drewN nq) = W2 at *
 go_quiet (first | (go_at_call 104; exact Calls.quiet_of_same ((impl_WidthOf _ _).mono fun e w' h => ⟨h.1, h.2.symm⟩)) | (go_at_call 125; exact Calls.quiet_of_same ((impl_DivTrunc _ _ _ HQR.out HQP.out).mono fun e w' h => ⟨h.1, h.2.symm⟩)))
 go_upto_region 3 with fail
 have b1 : Bw W2 (W2.drewN nq) := Bw.drawn ⟨⟨nq, rfl⟩⟩
 replace g0 := pw_cell_below b1.out g0
 replace g1 := pw_cell_below b1.out g1
 replace g2 := pw_cell_below b1.out g2
 replace k0 := pw_cell_below b1.out k0
 replace k1 := pw_cell_below b1.out k1
 replace k2 := pw_cell_below b1.out k2
 replace b0 := b0.trans b1
 clear b1
 generalize (W2.drewN nq) = W3 at *
 go_wp2_with fail
 refine (impl_ClampN _ _ _ _ HLH.out).mono ?_
 rintro e w4 ⟨rfl, rfl⟩
 go_wp2
 go_ret
 exact ⟨ret_int HF.out, b0⟩
end Go.Proofs.Ytkhjkcefkampkaa.U
set_option linter.unusedVariables false
set_option linter.unusedSimpArgs false
namespace Go.Proofs.Ytkhjkcefkampkaa.U
open Go.RowKit Go.Lib Go.Proofs.YtkhjkcefkampkaaW.PrintWords
open Go.Proofs.YtkhjkcefkampkaaW.PrintLast Go.Proofs.YtkhjkcefkampkaaW.PrintMore
def fluxS (s : Sta) (i : Nat) : Int := pairF (surf s i) (surf s (i + 1)) (rd s.ms (i : Int)) (rd s.ms ((i + 1 : Nat) : Int)) (gc s.lv i).l (gc s.lv (i + 1)).l
end Go.Proofs.Ytkhjkcefkampkaa.U
set_option linter.unusedVariables false
set_option linter.unusedSimpArgs false
namespace Go.Proofs.Ytkhjkcefkampkaa.U
open Go.RowKit Go.Lib Go.Proofs.YtkhjkcefkampkaaW.PrintWords
attribute [local go_sem] go_max2 go_min2
def faceL (l : List Ce) (i : Nat) : Int := bigMax (gc l i).l (gc l (i + 1)).l
end Go.Proofs.Ytkhjkcefkampkaa.U
set_option linter.unusedVariables false
set_option linter.unusedSimpArgs false
namespace Go.Proofs.Ytkhjkcefkampkaa.U
open Go.RowKit Go.Lib Go.Proofs.YtkhjkcefkampkaaW.PrintWords
end Go.Proofs.Ytkhjkcefkampkaa.U
set_option linter.unusedVariables false
set_option linter.unusedSimpArgs false
namespace Go.Proofs.Ytkhjkcefkampkaa.U
open Go.RowKit Go.Lib Go.Proofs.YtkhjkcefkampkaaW.PrintWords
def fl (s : Sta) (t : Int) (i : Nat) : Int := if i + 1 < s.lv.length ∧ actB t (faceL s.lv i) = true then fluxS s i else 0
end Go.Proofs.Ytkhjkcefkampkaa.U
set_option linter.unusedVariables false
set_option linter.unusedSimpArgs false
namespace Go.Proofs.Ytkhjkcefkampkaa.U
open Go.RowKit Go.Lib Go.Proofs.YtkhjkcefkampkaaW.PrintWords
def rowOf (n : Nat) (f : Nat → Int) : List Int := (List.range n).map f
theorem rowOf_len (n : Nat) (f : Nat → Int) : (rowOf n f).length = n := by simp [rowOf]
theorem rowOf_congr {n : Nat} {f g : Nat → Int} (h : ∀ j, j < n → f j = g j) : rowOf n f = rowOf n g := by
 unfold rowOf
 exact List.map_congr_left fun j hj => h j (List.mem_range.1 hj)
theorem rowOf_set (n i : Nat) (f : Nat → Int) (x : Int) : (rowOf n f).set i x = rowOf n (fun j => if j = i then x else f j) := by
 apply List.ext_getElem?
 intro j
 rw [List.getElem?_set, rowOf, rowOf, List.length_map, List.length_range, List.getElem?_map, List.getElem?_map]
 by_cases hj : j < n
 ·rw [List.getElem?_range hj]
  by_cases e : i = j
  ·subst e; simp [hj]
  ·rw [if_neg e]; simp [show ¬ j = i from fun q => e q.symm]
 ·have hn : (List.range n)[j]? = none := List.getElem?_eq_none (by simp; omega)
  rw [hn]
  split
  ·simp; omega
  ·rfl
theorem rowOf_zero (n : Nat) : List.replicate n (0 : Int) = rowOf n (fun _ => 0) := by
 apply List.ext_getElem?
 intro j
 rw [rowOf, List.getElem?_map, List.getElem?_replicate]
 by_cases hj : j < n
 ·rw [List.getElem?_range hj, if_pos hj]; rfl
 ·rw [List.getElem?_eq_none (by simp; omega), if_neg hj]; rfl
structure StG (s : Sta) : Prop where
 f : StF s
 tv : ∀ i : Nat, i < s.lv.length → 0 ≤ rd s.ts (i : Int) ∧ rd s.ts (i : Int) ≤ 1000 * rd s.ms (i : Int)
 one : 1 ≤ s.lv.length
theorem StG.of {s : Sta} (h : staOk s.ro s.lv s.ms s.ts s.bd = true) : StG s := by
 refine ⟨StF.of h, fun i hi => ?_, ?_⟩
 ·simp only [staOk, hasC, Bool.and_eq_true, decide_eq_true_iff] at h
  obtain ⟨_, ⟨⟨⟨⟨h2, h3⟩, h4⟩, h5⟩, h6⟩, _⟩ := h
  exact (cellsOk_at s.ms s.ts _ 0 h6 i (by omega) (by omega)).2
 ·simp only [staOk, isBal, Bool.and_eq_true] at h
  exact (meshOk_len h.1.1).2.2
end Go.Proofs.Ytkhjkcefkampkaa.U
set_option linter.unusedVariables false
set_option linter.unusedSimpArgs false
namespace Go.Proofs.Ytkhjkcefkampkaa.U
open Go.RowKit Go.Lib Go.Proofs.YtkhjkcefkampkaaW.PrintWords
structure SH (w : World) (base mb tb G H n c1 c2 : Nat) (M T : List Int) : Prop where
 cm : w.cell? ⟨mb, 0, none⟩ = some (.slice (some ⟨G, 0, none⟩) n c1)
 ct : w.cell? ⟨tb, 0, none⟩ = some (.slice (some ⟨H, 0, none⟩) n c2)
 m : OI w base (.slice (some ⟨G, 0, none⟩) n c1) n M
 t : OI w base (.slice (some ⟨H, 0, none⟩) n c2) n T
 ne : G ≠ H ∧ mb ≠ G ∧ mb ≠ H ∧ tb ≠ G ∧ tb ≠ H
section
variable {w : World} {base mb tb G H n c1 c2 : Nat} {M T : List Int}
end
structure Sh2 (w w' : World) (G H : Nat) : Prop where
 os : w'.os = w.os
 tape : w'.tape = w.tape
 output : w'.output = w.output
 size : w'.heap.size = w.heap.size
 block : ∀ b, b ≠ G → b ≠ H → w'.heap[b]? = w.heap[b]?
theorem Sh2.refl (w : World) (G H : Nat) : Sh2 w w G H := ⟨rfl, rfl, rfl, rfl, fun _ _ _ => rfl⟩
theorem Sh2.set {w w' : World} {G H : Nat} (h : Sh2 w w' G H) (g i : Nat) (u : Value) (hg : g = G ∨ g = H) : Sh2 w (w'.setCell ⟨g, i, none⟩ u) G H :=
 ⟨h.os, h.tape, h.output, by rw [← h.size]; simp [World.setCell], fun b h1 h2 => (Below.heap_setCell w' ⟨g, i, none⟩ u b (fun e => by simp at e; omega)).trans (h.block b h1 h2)⟩
end Go.Proofs.Ytkhjkcefkampkaa.U
set_option linter.unusedVariables false
set_option linter.unusedSimpArgs false
namespace Go.Proofs.Ytkhjkcefkampkaa.U
open Go.RowKit Go.Lib Go.Proofs.YtkhjkcefkampkaaW.PrintWords
open Go.Proofs.YtkhjkcefkampkaaW.PrintLast Go.Proofs.YtkhjkcefkampkaaW.PrintMore
section
variable {P : Program} {ops : Array Oper} {o : Oper} {a : Act} {Q : Exit → Act → World → Prop} {Kc : Act → World → Prop}
end
theorem SH.to {w w' : World} {base mb tb G H n c1 c2 : Nat} {M T : List Int} (h : SH w base mb tb G H n c1 c2 M T) (b : Bw w w') : SH w' base mb tb G H n c1 c2 M T := ⟨pw_cell_below b.out h.cm, pw_cell_below b.out h.ct, h.m.to b, h.t.to b, h.ne⟩
theorem Sh2.bw {W w w' : World} {G H : Nat} (z : Sh2 w w' G H) (b : Bw W w) (hG : W.heap.size ≤ G) (hH : W.heap.size ≤ H) : Bw W w' := ⟨⟨z.os.trans b.out.os, z.tape.trans b.out.tape, z.output.trans b.out.output, by rw [z.size]; exact b.out.size, fun k hk => (z.block k (by omega) (by omega)).trans (b.out.block k hk)⟩⟩
theorem Sh2.cell {w w' : World} {G H : Nat} (z : Sh2 w w' G H) {p : Addr} {v : Value} (h : w.cell? p = some v) (h1 : p.block ≠ G) (h2 : p.block ≠ H) : w'.cell? p = some v := by
 rw [World.cell?_of_block (z.block p.block h1 h2)]
 exact h
def mixf (f g : Nat → Int) (k j : Nat) : Int := if j < k then f j else g j
theorem mixf_zero (f g : Nat → Int) : mixf f g 0 = g := by funext j; simp [mixf]
theorem mixf_all {j n : Nat} (f g : Nat → Int) (h : j < n) : mixf f g n j = f j := if_pos h
theorem mixf_step (f g : Nat → Int) (n k : Nat) (x : Int) (h : x = f k) : (rowOf n (mixf f g k)).set k x = rowOf n (mixf f g (k + 1)) := by
 rw [rowOf_set]
 refine rowOf_congr fun j hj => ?_
 unfold mixf
 by_cases e : j = k
 ·subst e; rw [if_pos rfl, if_pos (by omega), h]
 ·rw [if_neg e]
  by_cases e2 : j < k
  ·rw [if_pos e2, if_pos (by omega)]
  ·rw [if_neg e2, if_neg (by omega)]
theorem Sh2.dr {w w' : World} {G H : Nat} (z : Sh2 w w' G H) : Sh2 w w'.drew G H := ⟨by rw [← z.os]; rfl, by rw [← z.tape]; rfl, by rw [← z.output]; rfl, by rw [← z.size]; rfl, fun b h1 h2 => (z.block b h1 h2)⟩
end Go.Proofs.Ytkhjkcefkampkaa.U
set_option linter.unusedVariables false
set_option linter.unusedSimpArgs false
namespace Go.Proofs.Ytkhjkcefkampkaa.U
open Go.RowKit Go.Lib Go.Proofs.YtkhjkcefkampkaaW.PrintWords
structure Uw (w w' : World) (A B : Nat) : Prop where
 os : w'.os = w.os
 tape : w'.tape = w.tape
 output : w'.output = w.output
 size : w.heap.size ≤ w'.heap.size
 block : ∀ b, b < w.heap.size → b ≠ A → b ≠ B → w'.heap[b]? = w.heap[b]?
theorem Uw.refl (w : World) (A B : Nat) : Uw w w A B := ⟨rfl, rfl, rfl, Nat.le_refl _, fun _ _ _ _ => rfl⟩
theorem Uw.bw {w w' w2 : World} {A B : Nat} (h : Uw w w' A B) (b : Bw w' w2) : Uw w w2 A B := ⟨b.out.os.trans h.os, b.out.tape.trans h.tape, b.out.output.trans h.output, Nat.le_trans h.size b.size, fun k hk h1 h2 => (b.out.block k (Nat.lt_of_lt_of_le hk h.size)).trans (h.block k hk h1 h2)⟩
theorem Uw.set {w w' : World} {A B : Nat} (h : Uw w w' A B) (g i : Nat) (u : Value) (hg : g = A ∨ g = B) : Uw w (w'.setCell ⟨g, i, none⟩ u) A B := ⟨h.os, h.tape, h.output, Nat.le_trans h.size (by simp [World.setCell]), fun k hk h1 h2 => (Below.heap_setCell w' ⟨g, i, none⟩ u k (fun e => by simp at e; omega)).trans (h.block k hk h1 h2)⟩
theorem Uw.to {W w w' : World} {A B : Nat} (h : Uw w w' A B) (b : Bw W w) (hA : W.heap.size ≤ A) (hB : W.heap.size ≤ B) : Bw W w' := ⟨⟨h.os.trans b.out.os, h.tape.trans b.out.tape, h.output.trans b.out.output, Nat.le_trans b.out.size h.size, fun k hk => (h.block k (Nat.lt_of_lt_of_le hk b.out.size) (by omega) (by omega)).trans (b.out.block k hk)⟩⟩
theorem Uw.blk {w w' : World} {A B b : Nat} {o : Obj} (h : Uw w w' A B) (hb : w.heap[b]? = some o) (h1 : b ≠ A) (h2 : b ≠ B) : w'.heap[b]? = some o := (h.block b (blk_lt hb) h1 h2).trans hb
theorem Uw.fo {w w' : World} {A B base t k n : Nat} {v : Value} {F : List Int} (h : Uw w w' A B) (o : FO w base t k v n F) (h1 : ∀ b, v.ownBlock = some b → b ≠ A ∧ b ≠ B) : FO w' base t k v n F := ⟨own_move o.out fun q hq => h.block q (own_lt o.out q hq) (h1 q hq).1 (h1 q hq).2⟩
theorem Uw.oi {w w' : World} {A B base n : Nat} {v : Value} {F : List Int} (h : Uw w w' A B) (o : OI w base v n F) (h1 : ∀ b, v.ownBlock = some b → b ≠ A ∧ b ≠ B) : OI w' base v n F := ⟨own_move o.out fun q hq => h.block q (own_lt o.out q hq) (h1 q hq).1 (h1 q hq).2⟩
end Go.Proofs.Ytkhjkcefkampkaa.U
