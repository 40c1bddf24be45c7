
/- The law FnExactExchange returns true at all arguments, and turns nothing that was there. -/
import Derived.Test.YtcdibjneoemidaaKv
set_option linter.unusedVariables false
set_option linter.unusedSimpArgs false
namespace Go.Proofs.Ytcdibjneoemidaa.U
open Go.RowKit Go.Lib Go.Proofs.YtcdibjneoemidaaW.PrintWords

set_option maxHeartbeats 8000000 in
set_option maxRecDepth 100000 in
theorem law_Exchange (A0 : Option Addr) (n0 c0 : Nat) (l0 : List Int) (A1 : Option Addr) (n1 c1 : Nat) (l1 : List Int) (w : World) (r0 : RI w A0 n0 l0) (wf0 : ∀ x ∈ l0, -9223372036854775808 ≤ x ∧ x ≤ 9223372036854775807) (r1 : RI w A1 n1 l1) (wf1 : ∀ x ∈ l1, -9223372036854775808 ≤ x ∧ x ≤ 9223372036854775807) :
    Calls Try.prog 6 #[.slice A0 n0 c0, .slice A1 n1 c1] w fun e w' => e = .returned (.bool true) ∧ Bw w w' := by
  by_cases hn0 : 1048576 < n0
  · clear wf0 wf1
    go_enter Try.func6, Try.ntmps6
    go_wp2
    go_ret
    exact ⟨rfl, Bw.refl _⟩
  by_cases hn1 : 1048576 < n1
  · clear wf0 wf1
    go_enter Try.func6, Try.ntmps6
    go_wp2
    go_ret
    exact ⟨rfl, Bw.refl _⟩
  have hl0 := r0.len
  have HL0 := hid hl0; clear hl0
  have hl1 := r1.len
  have HL1 := hid hl1; clear hl1
  have WF0 := hid wf0; clear wf0
  have WF1 := hid wf1; clear wf1
  have bb := Bw.refl w
  go_enter Try.func6, Try.ntmps6
  go_wp2_with fail
  refine (toIntS A0 n0 c0 l0 _ (r0.to bb) (by omega)).mono ?_
  rintro e w1 ⟨v_, rfl, o_p0, b⟩
  have z_p0 := bb.size
  replace bb := bb.trans b
  clear b
  obtain ⟨A_p0, c_p0, rfl, t_⟩ := o_p0.reads; clear t_
  go_wp2_with fail
  refine (toIntS A1 n1 c1 l1 _ (r1.to bb) (by omega)).mono ?_
  rintro e w2 ⟨v_, rfl, o_p1, b⟩
  have z_p1 := bb.size
  have ap_p0_p1 := OI.apart o_p0 o_p1 (Nat.le_refl _)
  replace bb := bb.trans b
  replace o_p0 := o_p0.to b
  clear b
  obtain ⟨A_p1, c_p1, rfl, t_⟩ := o_p1.reads; clear t_
  go_wp2_with fail
  refine (spec_Exchange _ n0 _ l0 _ n1 _ l1 _ o_p0.ri o_p1.ri WF1.out).mono ?_
  rintro e w3 ⟨v_, rfl, o_W, b⟩
  have z_W := bb.size
  have ap_p0_W := OI.apart o_p0 o_W (Nat.le_refl _)
  have ap_p1_W := OI.apart o_p1 o_W (Nat.le_refl _)
  replace bb := bb.trans b
  replace o_p0 := o_p0.to b
  replace o_p1 := o_p1.to b
  clear b
  obtain ⟨A_W, c_W, rfl, t_⟩ := o_W.reads; clear t_
  clear o_p0 z_p0
  clear o_p1 z_p1
  go_wp2_with fail
  refine (toIntS A0 n0 c0 l0 _ (r0.to bb) (by omega)).mono ?_
  rintro e w4 ⟨v_, rfl, o_x0, b⟩
  have z_x0 := bb.size
  have ap_W_x0 := OI.apart o_W o_x0 (Nat.le_refl _)
  replace bb := bb.trans b
  replace o_W := o_W.to b
  clear b
  obtain ⟨A_x0, c_x0, rfl, t_⟩ := o_x0.reads; clear t_
  go_wp2_with fail
  refine (toIntS A1 n1 c1 l1 _ (r1.to bb) (by omega)).mono ?_
  rintro e w5 ⟨v_, rfl, o_x1, b⟩
  have z_x1 := bb.size
  have ap_W_x1 := OI.apart o_W o_x1 (Nat.le_refl _)
  have ap_x0_x1 := OI.apart o_x0 o_x1 (Nat.le_refl _)
  replace bb := bb.trans b
  replace o_W := o_W.to b
  replace o_x0 := o_x0.to b
  clear b
  obtain ⟨A_x1, c_x1, rfl, t_⟩ := o_x1.reads; clear t_
  go_wp2_with fail
  refine (impl_Exchange _ n0 _ l0 _ n1 _ l1 _ o_x0.ri o_x1.ri WF1.out).mono ?_
  rintro e w6 ⟨v_, rfl, o_g, b⟩
  have z_g := bb.size
  have ap_W_g := OI.apart o_W o_g (Nat.le_refl _)
  have ap_x0_g := OI.apart o_x0 o_g (Nat.le_refl _)
  have ap_x1_g := OI.apart o_x1 o_g (Nat.le_refl _)
  replace bb := bb.trans b
  replace o_W := o_W.to b
  replace o_x0 := o_x0.to b
  replace o_x1 := o_x1.to b
  clear b
  obtain ⟨A_g, c_g, rfl, t_⟩ := o_g.reads; clear t_
  go_wp2_with fail
  refine (eqIntS _ _ _ ((exS l0 l1).1) _ _ _ ((exS l0 l1).1) _ o_g.ri o_W.ri).mono ?_
  rintro e w7 ⟨rfl, b⟩
  replace bb := bb.trans (Bw.drawn b)
  replace o_W := o_W.to (Bw.drawn b)
  replace o_x0 := o_x0.to (Bw.drawn b)
  replace o_x1 := o_x1.to (Bw.drawn b)
  replace o_g := o_g.to (Bw.drawn b)
  clear b
  rw [decide_eq_true (rfl : (exS l0 l1).1 = (exS l0 l1).1)]
  go_wp2_with fail
  refine (toIntS A0 n0 c0 l0 _ (r0.to bb) (by omega)).mono ?_
  rintro e w8 ⟨v_, rfl, o_y, b⟩
  have z_y := bb.size
  have ap_W_y := OI.apart o_W o_y (Nat.le_refl _)
  have ap_x0_y := OI.apart o_x0 o_y (Nat.le_refl _)
  have ap_x1_y := OI.apart o_x1 o_y (Nat.le_refl _)
  have ap_g_y := OI.apart o_g o_y (Nat.le_refl _)
  replace bb := bb.trans b
  replace o_W := o_W.to b
  replace o_x0 := o_x0.to b
  replace o_x1 := o_x1.to b
  replace o_g := o_g.to b
  clear b
  obtain ⟨A_y, c_y, rfl, t_⟩ := o_y.reads; clear t_
  go_wp2_with fail
  refine (eqIntS _ _ _ (l0) _ _ _ (l0) _ o_x0.ri o_y.ri).mono ?_
  rintro e w9 ⟨rfl, b⟩
  replace bb := bb.trans (Bw.drawn b)
  replace o_W := o_W.to (Bw.drawn b)
  replace o_x0 := o_x0.to (Bw.drawn b)
  replace o_x1 := o_x1.to (Bw.drawn b)
  replace o_g := o_g.to (Bw.drawn b)
  replace o_y := o_y.to (Bw.drawn b)
  clear b
  rw [decide_eq_true (rfl : l0 = l0)]
  clear o_y z_y
  go_wp2_with fail
  refine (toIntS A1 n1 c1 l1 _ (r1.to bb) (by omega)).mono ?_
  rintro e w10 ⟨v_, rfl, o_y, b⟩
  have z_y := bb.size
  have ap_W_y := OI.apart o_W o_y (Nat.le_refl _)
  have ap_x0_y := OI.apart o_x0 o_y (Nat.le_refl _)
  have ap_x1_y := OI.apart o_x1 o_y (Nat.le_refl _)
  have ap_g_y := OI.apart o_g o_y (Nat.le_refl _)
  replace bb := bb.trans b
  replace o_W := o_W.to b
  replace o_x0 := o_x0.to b
  replace o_x1 := o_x1.to b
  replace o_g := o_g.to b
  clear b
  obtain ⟨A_y, c_y, rfl, t_⟩ := o_y.reads; clear t_
  go_wp2_with fail
  refine (eqIntS _ _ _ (l1) _ _ _ (l1) _ o_x1.ri o_y.ri).mono ?_
  rintro e w11 ⟨rfl, b⟩
  replace bb := bb.trans (Bw.drawn b)
  replace o_W := o_W.to (Bw.drawn b)
  replace o_x0 := o_x0.to (Bw.drawn b)
  replace o_x1 := o_x1.to (Bw.drawn b)
  replace o_g := o_g.to (Bw.drawn b)
  replace o_y := o_y.to (Bw.drawn b)
  clear b
  rw [decide_eq_true (rfl : l1 = l1)]
  clear o_y z_y
  have hlen : ((exS l0 l1).1).length ≤ 1048576 := exS_len l0 l1
  go_wp2_with fail
  refine (markIntS _ n0 l0 (1) _ _ o_x0 (by omega) (by omega) (by omega)).mono ?_
  rintro e w12 ⟨rfl, o_new, b⟩
  replace bb := bb.grown b o_x0 z_x0
  replace o_W := o_W.grown b ap_W_x0
  replace o_x1 := o_x1.grown b (Apart.symm ap_x0_x1)
  replace o_g := o_g.grown b (Apart.symm ap_x0_g)
  replace o_x0 := o_new
  clear b
  go_wp2_with fail
  refine (markIntS _ n1 l1 (1 + (n0 : Int)) _ _ o_x1 (by omega) (by omega) (by omega)).mono ?_
  rintro e w13 ⟨rfl, o_new, b⟩
  replace bb := bb.grown b o_x1 z_x1
  replace o_W := o_W.grown b ap_W_x1
  replace o_x0 := o_x0.grown b ap_x0_x1
  replace o_g := o_g.grown b (Apart.symm ap_x1_g)
  replace o_x1 := o_new
  clear b
  clear o_x0 z_x0
  clear o_x1 z_x1
  go_wp2_with fail
  refine (eqIntS _ _ _ ((exS l0 l1).1) _ _ _ ((exS l0 l1).1) _ o_g.ri o_W.ri).mono ?_
  rintro e w14 ⟨rfl, b⟩
  replace bb := bb.trans (Bw.drawn b)
  replace o_W := o_W.to (Bw.drawn b)
  replace o_g := o_g.to (Bw.drawn b)
  clear b
  rw [decide_eq_true (rfl : (exS l0 l1).1 = (exS l0 l1).1)]
  go_wp2_with fail
  refine (markIntS _ ((exS l0 l1).1).length ((exS l0 l1).1) 1 _ _ o_g hlen (by omega) (by omega)).mono ?_
  rintro e w15 ⟨rfl, o_new, b⟩
  replace bb := bb.grown b o_g z_g
  replace o_W := o_W.grown b ap_W_g
  replace o_g := o_new
  clear b
  go_wp2_with fail
  refine (heldIntS _ ((exS l0 l1).1).length _ 1 _ o_g.ri hlen (by omega) (by omega)).mono ?_
  rintro e w16 ⟨rfl, b⟩
  replace bb := bb.trans (Bw.drawn b)
  replace o_W := o_W.to (Bw.drawn b)
  replace o_g := o_g.to (Bw.drawn b)
  clear b
  go_wp2_with fail
  refine (toIntS A0 n0 c0 l0 _ (r0.to bb) (by omega)).mono ?_
  rintro e w17 ⟨v_, rfl, o_u0, b⟩
  have z_u0 := bb.size
  have ap_W_u0 := OI.apart o_W o_u0 (Nat.le_refl _)
  have ap_g_u0 := OI.apart o_g o_u0 (Nat.le_refl _)
  replace bb := bb.trans b
  replace o_W := o_W.to b
  replace o_g := o_g.to b
  clear b
  obtain ⟨A_u0, c_u0, rfl, t_⟩ := o_u0.reads; clear t_
  go_wp2_with fail
  refine (toIntS A1 n1 c1 l1 _ (r1.to bb) (by omega)).mono ?_
  rintro e w18 ⟨v_, rfl, o_u1, b⟩
  have z_u1 := bb.size
  have ap_W_u1 := OI.apart o_W o_u1 (Nat.le_refl _)
  have ap_g_u1 := OI.apart o_g o_u1 (Nat.le_refl _)
  have ap_u0_u1 := OI.apart o_u0 o_u1 (Nat.le_refl _)
  replace bb := bb.trans b
  replace o_W := o_W.to b
  replace o_g := o_g.to b
  replace o_u0 := o_u0.to b
  clear b
  obtain ⟨A_u1, c_u1, rfl, t_⟩ := o_u1.reads; clear t_
  go_wp2_with fail
  refine (impl_Exchange _ n0 _ l0 _ n1 _ l1 _ o_u0.ri o_u1.ri WF1.out).mono ?_
  rintro e w19 ⟨v_, rfl, o_h, b⟩
  have z_h := bb.size
  have ap_W_h := OI.apart o_W o_h (Nat.le_refl _)
  have ap_g_h := OI.apart o_g o_h (Nat.le_refl _)
  have ap_u0_h := OI.apart o_u0 o_h (Nat.le_refl _)
  have ap_u1_h := OI.apart o_u1 o_h (Nat.le_refl _)
  replace bb := bb.trans b
  replace o_W := o_W.to b
  replace o_g := o_g.to b
  replace o_u0 := o_u0.to b
  replace o_u1 := o_u1.to b
  clear b
  obtain ⟨A_h, c_h, rfl, t_⟩ := o_h.reads; clear t_
  clear o_u0 z_u0
  clear o_u1 z_u1
  go_wp2_with fail
  refine (eqIntS _ _ _ ((exS l0 l1).1) _ _ _ ((exS l0 l1).1) _ o_h.ri o_W.ri).mono ?_
  rintro e w20 ⟨rfl, b⟩
  replace bb := bb.trans (Bw.drawn b)
  replace o_W := o_W.to (Bw.drawn b)
  replace o_g := o_g.to (Bw.drawn b)
  replace o_h := o_h.to (Bw.drawn b)
  clear b
  rw [decide_eq_true (rfl : (exS l0 l1).1 = (exS l0 l1).1)]
  go_wp2_with fail
  refine (heldIntS _ ((exS l0 l1).1).length _ 1 _ o_g.ri hlen (by omega) (by omega)).mono ?_
  rintro e w21 ⟨rfl, b⟩
  replace bb := bb.trans (Bw.drawn b)
  replace o_W := o_W.to (Bw.drawn b)
  replace o_g := o_g.to (Bw.drawn b)
  replace o_h := o_h.to (Bw.drawn b)
  clear b
  go_wp2
  go_ret
  exact ⟨rfl, bb⟩
end Go.Proofs.Ytcdibjneoemidaa.U
