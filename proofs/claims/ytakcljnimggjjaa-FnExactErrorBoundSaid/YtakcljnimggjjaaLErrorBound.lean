/- The law FnExactErrorBound returns true at all arguments, and turns nothing that was there. -/
import Derived.Test.YtakcljnimggjjaaEs
set_option linter.unusedVariables false
set_option linter.unusedSimpArgs false
namespace Go.Proofs.Ytakcljnimggjjaa.U
open Go.RowKit Go.Lib Go.Proofs.YtakcljnimggjjaaW.PrintWords

set_option maxHeartbeats 8000000 in
set_option maxRecDepth 100000 in
theorem law_ErrorBound (A0 : Option Addr) (n0 c0 : Nat) (l0 : List Int) (A1 : Option Addr) (n1 c1 : Nat) (l1 : List Int) (a2 : Int) (w : World) (r0 : RI w A0 n0 l0) (wf0 : ∀ x ∈ l0, -9223372036854775808 ≤ x ∧ x ≤ 9223372036854775807) (r1 : RI w A1 n1 l1) (wf1 : ∀ x ∈ l1, -9223372036854775808 ≤ x ∧ x ≤ 9223372036854775807) (wf2 : -9223372036854775808 ≤ a2 ∧ a2 ≤ 9223372036854775807) :
    Calls Try.prog 4 #[.slice A0 n0 c0, .slice A1 n1 c1, .int .i64 a2] w fun e w' => e = .returned (.bool true) ∧ Bw w w' := by
  by_cases hn0 : 1048576 < n0
  · clear wf0 wf1 wf2
    go_enter Try.func4, Try.ntmps4
    go_wp2
    go_ret
    exact ⟨rfl, Bw.refl _⟩
  by_cases hn1 : 1048576 < n1
  · clear wf0 wf1 wf2
    go_enter Try.func4, Try.ntmps4
    go_wp2
    go_ret
    exact ⟨rfl, Bw.refl _⟩
  have hl0 := r0.len
  have HL0 := hid hl0; clear hl0
  have hl1 := r1.len
  have HL1 := hid hl1; clear hl1
  have WF0 := hid wf0; clear wf0
  have WF1 := hid wf1; clear wf1
  have WF2 := hid wf2; clear wf2
  have bb := Bw.refl w
  go_enter Try.func4, Try.ntmps4
  go_wp2_with fail
  refine (toIntS A0 n0 c0 l0 _ (r0.to bb) (by omega)).mono ?_
  rintro e w1 ⟨v_, rfl, o_p0, b⟩
  have z_p0 := bb.size
  replace bb := bb.trans b
  clear b
  obtain ⟨A_p0, c_p0, rfl, t_⟩ := o_p0.reads; clear t_
  go_wp2_with fail
  refine (toIntS A1 n1 c1 l1 _ (r1.to bb) (by omega)).mono ?_
  rintro e w2 ⟨v_, rfl, o_p1, b⟩
  have z_p1 := bb.size
  have ap_p0_p1 := OI.apart o_p0 o_p1 (Nat.le_refl _)
  replace bb := bb.trans b
  replace o_p0 := o_p0.to b
  clear b
  obtain ⟨A_p1, c_p1, rfl, t_⟩ := o_p1.reads; clear t_
  go_wp2_with fail
  refine (spec_ErrorBound _ n0 _ l0 _ n1 _ l1 a2 _ o_p0.ri o_p1.ri ).mono ?_
  rintro e w3 ⟨rfl, b⟩
  replace bb := bb.trans b
  replace o_p0 := o_p0.to b
  replace o_p1 := o_p1.to b
  clear b
  clear o_p0 z_p0
  clear o_p1 z_p1
  go_wp2_with fail
  refine (toIntS A0 n0 c0 l0 _ (r0.to bb) (by omega)).mono ?_
  rintro e w4 ⟨v_, rfl, o_x0, b⟩
  have z_x0 := bb.size
  replace bb := bb.trans b
  clear b
  obtain ⟨A_x0, c_x0, rfl, t_⟩ := o_x0.reads; clear t_
  go_wp2_with fail
  refine (toIntS A1 n1 c1 l1 _ (r1.to bb) (by omega)).mono ?_
  rintro e w5 ⟨v_, rfl, o_x1, b⟩
  have z_x1 := bb.size
  have ap_x0_x1 := OI.apart o_x0 o_x1 (Nat.le_refl _)
  replace bb := bb.trans b
  replace o_x0 := o_x0.to b
  clear b
  obtain ⟨A_x1, c_x1, rfl, t_⟩ := o_x1.reads; clear t_
  go_wp2_with fail
  refine (impl_ErrorBound _ n0 _ l0 _ n1 _ l1 a2 _ o_x0.ri o_x1.ri ).mono ?_
  rintro e w6 ⟨rfl, b⟩
  replace bb := bb.trans b
  replace o_x0 := o_x0.to b
  replace o_x1 := o_x1.to b
  clear b
  go_wp2_with fail
  refine (toIntS A0 n0 c0 l0 _ (r0.to bb) (by omega)).mono ?_
  rintro e w7 ⟨v_, rfl, o_y, b⟩
  have z_y := bb.size
  have ap_x0_y := OI.apart o_x0 o_y (Nat.le_refl _)
  have ap_x1_y := OI.apart o_x1 o_y (Nat.le_refl _)
  replace bb := bb.trans b
  replace o_x0 := o_x0.to b
  replace o_x1 := o_x1.to b
  clear b
  obtain ⟨A_y, c_y, rfl, t_⟩ := o_y.reads; clear t_
  go_wp2_with fail
  refine (eqIntS _ _ _ (l0) _ _ _ (l0) _ o_x0.ri o_y.ri).mono ?_
  rintro e w8 ⟨rfl, b⟩
  replace bb := bb.trans (Bw.drawn b)
  replace o_x0 := o_x0.to (Bw.drawn b)
  replace o_x1 := o_x1.to (Bw.drawn b)
  replace o_y := o_y.to (Bw.drawn b)
  clear b
  rw [decide_eq_true (rfl : l0 = l0)]
  clear o_y z_y
  go_wp2_with fail
  refine (toIntS A1 n1 c1 l1 _ (r1.to bb) (by omega)).mono ?_
  rintro e w9 ⟨v_, rfl, o_y, b⟩
  have z_y := bb.size
  have ap_x0_y := OI.apart o_x0 o_y (Nat.le_refl _)
  have ap_x1_y := OI.apart o_x1 o_y (Nat.le_refl _)
  replace bb := bb.trans b
  replace o_x0 := o_x0.to b
  replace o_x1 := o_x1.to b
  clear b
  obtain ⟨A_y, c_y, rfl, t_⟩ := o_y.reads; clear t_
  go_wp2_with fail
  refine (eqIntS _ _ _ (l1) _ _ _ (l1) _ o_x1.ri o_y.ri).mono ?_
  rintro e w10 ⟨rfl, b⟩
  replace bb := bb.trans (Bw.drawn b)
  replace o_x0 := o_x0.to (Bw.drawn b)
  replace o_x1 := o_x1.to (Bw.drawn b)
  replace o_y := o_y.to (Bw.drawn b)
  clear b
  rw [decide_eq_true (rfl : l1 = l1)]
  clear o_y z_y
  go_wp2
  go_ret
  exact ⟨rfl, bb⟩
end Go.Proofs.Ytakcljnimggjjaa.U
