
/- The law FnExactSolveTo returns true at all arguments, and turns nothing that was there. -/
import Derived.Test.YtpnciejalcdgeaaSv
set_option linter.unusedVariables false
set_option linter.unusedSimpArgs false
namespace Go.Proofs.Ytpnciejalcdgeaa.U
open Go.RowKit Go.Lib Go.Proofs.YtpnciejalcdgeaaW.PrintWords

set_option maxHeartbeats 8000000 in
set_option maxRecDepth 100000 in
theorem law_SolveTo (A0 : Option Addr) (n0 c0 : Nat) (l0 : List Int) (a1 : Int) (a2 : Int) (a3 : Int) (w : World) (r0 : RI w A0 n0 l0) (wf0 : ∀ x ∈ l0, -9223372036854775808 ≤ x ∧ x ≤ 9223372036854775807) (wf1 : -9223372036854775808 ≤ a1 ∧ a1 ≤ 9223372036854775807) (wf2 : -9223372036854775808 ≤ a2 ∧ a2 ≤ 9223372036854775807) (wf3 : -9223372036854775808 ≤ a3 ∧ a3 ≤ 9223372036854775807) :
    Calls Try.prog 6 #[.slice A0 n0 c0, .int .i64 a1, .int .i64 a2, .int .i64 a3] w fun e w' => e = .returned (.bool true) ∧ Bw w w' := by
  by_cases hn0 : 1048576 < n0
  · clear wf0 wf1 wf2 wf3
    go_enter Try.func6, Try.ntmps6
    go_wp2
    go_ret
    exact ⟨rfl, Bw.refl _⟩
  have hl0 := r0.len
  have HL0 := hid hl0; clear hl0
  have WF0 := hid wf0; clear wf0
  have WF1 := hid wf1; clear wf1
  have WF2 := hid wf2; clear wf2
  have WF3 := hid wf3; clear wf3
  have bb := Bw.refl w
  go_enter Try.func6, Try.ntmps6
  go_wp2_with fail
  refine (toIntS A0 n0 c0 l0 _ (r0.to bb) (by omega)).mono ?_
  rintro e w1 ⟨v_, rfl, o_p0, b⟩
  have z_p0 := bb.size
  replace bb := bb.trans b
  clear b
  obtain ⟨A_p0, c_p0, rfl, t_⟩ := o_p0.reads; clear t_
  go_wp2_with fail
  refine (spec_SolveTo _ n0 _ l0 a1 a2 a3 _ o_p0.ri ).mono ?_
  rintro e w2 ⟨v_, rfl, o_W, b⟩
  have z_W := bb.size
  have ap_p0_W := OI.apart o_p0 o_W (Nat.le_refl _)
  replace bb := bb.trans b
  replace o_p0 := o_p0.to b
  clear b
  obtain ⟨A_W, c_W, rfl, t_⟩ := o_W.reads; clear t_
  clear o_p0 z_p0
  go_wp2_with fail
  refine (toIntS A0 n0 c0 l0 _ (r0.to bb) (by omega)).mono ?_
  rintro e w3 ⟨v_, rfl, o_x0, b⟩
  have z_x0 := bb.size
  have ap_W_x0 := OI.apart o_W o_x0 (Nat.le_refl _)
  replace bb := bb.trans b
  replace o_W := o_W.to b
  clear b
  obtain ⟨A_x0, c_x0, rfl, t_⟩ := o_x0.reads; clear t_
  go_wp2_with fail
  refine (impl_SolveTo _ n0 _ l0 a1 a2 a3 _ o_x0.ri ).mono ?_
  rintro e w4 ⟨v_, rfl, o_g, b⟩
  have z_g := bb.size
  have ap_W_g := OI.apart o_W o_g (Nat.le_refl _)
  have ap_x0_g := OI.apart o_x0 o_g (Nat.le_refl _)
  replace bb := bb.trans b
  replace o_W := o_W.to b
  replace o_x0 := o_x0.to b
  clear b
  obtain ⟨A_g, c_g, rfl, t_⟩ := o_g.reads; clear t_
  go_wp2_with fail
  refine (eqIntS _ _ _ ((solveL l0 a1 a2 a3).1) _ _ _ ((solveL l0 a1 a2 a3).1) _ o_g.ri o_W.ri).mono ?_
  rintro e w5 ⟨rfl, b⟩
  replace bb := bb.trans (Bw.drawn b)
  replace o_W := o_W.to (Bw.drawn b)
  replace o_x0 := o_x0.to (Bw.drawn b)
  replace o_g := o_g.to (Bw.drawn b)
  clear b
  rw [decide_eq_true (rfl : (solveL l0 a1 a2 a3).1 = (solveL l0 a1 a2 a3).1)]
  go_wp2_with fail
  refine (toIntS A0 n0 c0 l0 _ (r0.to bb) (by omega)).mono ?_
  rintro e w6 ⟨v_, rfl, o_y, b⟩
  have z_y := bb.size
  have ap_W_y := OI.apart o_W o_y (Nat.le_refl _)
  have ap_x0_y := OI.apart o_x0 o_y (Nat.le_refl _)
  have ap_g_y := OI.apart o_g o_y (Nat.le_refl _)
  replace bb := bb.trans b
  replace o_W := o_W.to b
  replace o_x0 := o_x0.to b
  replace o_g := o_g.to b
  clear b
  obtain ⟨A_y, c_y, rfl, t_⟩ := o_y.reads; clear t_
  go_wp2_with fail
  refine (eqIntS _ _ _ (l0) _ _ _ (l0) _ o_x0.ri o_y.ri).mono ?_
  rintro e w7 ⟨rfl, b⟩
  replace bb := bb.trans (Bw.drawn b)
  replace o_W := o_W.to (Bw.drawn b)
  replace o_x0 := o_x0.to (Bw.drawn b)
  replace o_g := o_g.to (Bw.drawn b)
  replace o_y := o_y.to (Bw.drawn b)
  clear b
  rw [decide_eq_true (rfl : l0 = l0)]
  clear o_y z_y
  have hlen : ((solveL l0 a1 a2 a3).1).length ≤ 1048576 := solveL_len l0 a1 a2 a3
  go_wp2_with fail
  refine (markIntS _ n0 l0 (1) _ _ o_x0 (by omega) (by omega) (by omega)).mono ?_
  rintro e w8 ⟨rfl, o_new, b⟩
  replace bb := bb.grown b o_x0 z_x0
  replace o_W := o_W.grown b ap_W_x0
  replace o_g := o_g.grown b (Apart.symm ap_x0_g)
  replace o_x0 := o_new
  clear b
  clear o_x0 z_x0
  go_wp2_with fail
  refine (eqIntS _ _ _ ((solveL l0 a1 a2 a3).1) _ _ _ ((solveL l0 a1 a2 a3).1) _ o_g.ri o_W.ri).mono ?_
  rintro e w9 ⟨rfl, b⟩
  replace bb := bb.trans (Bw.drawn b)
  replace o_W := o_W.to (Bw.drawn b)
  replace o_g := o_g.to (Bw.drawn b)
  clear b
  rw [decide_eq_true (rfl : (solveL l0 a1 a2 a3).1 = (solveL l0 a1 a2 a3).1)]
  go_wp2_with fail
  refine (markIntS _ ((solveL l0 a1 a2 a3).1).length ((solveL l0 a1 a2 a3).1) 1 _ _ o_g hlen (by omega) (by omega)).mono ?_
  rintro e w10 ⟨rfl, o_new, b⟩
  replace bb := bb.grown b o_g z_g
  replace o_W := o_W.grown b ap_W_g
  replace o_g := o_new
  clear b
  go_wp2_with fail
  refine (heldIntS _ ((solveL l0 a1 a2 a3).1).length _ 1 _ o_g.ri hlen (by omega) (by omega)).mono ?_
  rintro e w11 ⟨rfl, b⟩
  replace bb := bb.trans (Bw.drawn b)
  replace o_W := o_W.to (Bw.drawn b)
  replace o_g := o_g.to (Bw.drawn b)
  clear b
  go_wp2_with fail
  refine (toIntS A0 n0 c0 l0 _ (r0.to bb) (by omega)).mono ?_
  rintro e w12 ⟨v_, rfl, o_u0, b⟩
  have z_u0 := bb.size
  have ap_W_u0 := OI.apart o_W o_u0 (Nat.le_refl _)
  have ap_g_u0 := OI.apart o_g o_u0 (Nat.le_refl _)
  replace bb := bb.trans b
  replace o_W := o_W.to b
  replace o_g := o_g.to b
  clear b
  obtain ⟨A_u0, c_u0, rfl, t_⟩ := o_u0.reads; clear t_
  go_wp2_with fail
  refine (impl_SolveTo _ n0 _ l0 a1 a2 a3 _ o_u0.ri ).mono ?_
  rintro e w13 ⟨v_, rfl, o_h, b⟩
  have z_h := bb.size
  have ap_W_h := OI.apart o_W o_h (Nat.le_refl _)
  have ap_g_h := OI.apart o_g o_h (Nat.le_refl _)
  have ap_u0_h := OI.apart o_u0 o_h (Nat.le_refl _)
  replace bb := bb.trans b
  replace o_W := o_W.to b
  replace o_g := o_g.to b
  replace o_u0 := o_u0.to b
  clear b
  obtain ⟨A_h, c_h, rfl, t_⟩ := o_h.reads; clear t_
  clear o_u0 z_u0
  go_wp2_with fail
  refine (eqIntS _ _ _ ((solveL l0 a1 a2 a3).1) _ _ _ ((solveL l0 a1 a2 a3).1) _ o_h.ri o_W.ri).mono ?_
  rintro e w14 ⟨rfl, b⟩
  replace bb := bb.trans (Bw.drawn b)
  replace o_W := o_W.to (Bw.drawn b)
  replace o_g := o_g.to (Bw.drawn b)
  replace o_h := o_h.to (Bw.drawn b)
  clear b
  rw [decide_eq_true (rfl : (solveL l0 a1 a2 a3).1 = (solveL l0 a1 a2 a3).1)]
  go_wp2_with fail
  refine (heldIntS _ ((solveL l0 a1 a2 a3).1).length _ 1 _ o_g.ri hlen (by omega) (by omega)).mono ?_
  rintro e w15 ⟨rfl, b⟩
  replace bb := bb.trans (Bw.drawn b)
  replace o_W := o_W.to (Bw.drawn b)
  replace o_g := o_g.to (Bw.drawn b)
  replace o_h := o_h.to (Bw.drawn b)
  clear b
  go_wp2
  go_ret
  exact ⟨rfl, bb⟩
end Go.Proofs.Ytpnciejalcdgeaa.U
