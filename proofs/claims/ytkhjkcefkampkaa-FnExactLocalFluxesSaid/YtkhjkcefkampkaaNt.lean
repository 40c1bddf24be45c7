
/- The reference's l24Face. -/
import Derived.Test.YtkhjkcefkampkaaNs
import Derived.Test.YtkhjkcefkampkaaG19
set_option linter.unusedVariables false
set_option linter.unusedSimpArgs false
namespace Go.Proofs.Ytkhjkcefkampkaa.U
open Go.RowKit Go.Lib Go.Proofs.YtkhjkcefkampkaaW.PrintWords
attribute [local go_sem] go_max2 go_min2
set_option maxHeartbeats 8000000 in
set_option maxRecDepth 100000 in
theorem spec_l24Face (A B : Option Addr) (c d : Nat) (a b : List Int) (t : Int) (w : World) (r : RI w A 4 a) (q : RI w B 4 b) (ha : SdOk (ghS a 0)) (hb : SdOk (ghS b 0)) (ht : t ≤ 9223372036854775807) :
  Calls Try.prog 48 #[.slice A 4 c, .slice B 4 d, .int .i64 t] w fun e w' => e = .returned (.int .i64 (faceV (ghS a 0) (ghS b 0) t)) ∧ Drawn0 w w' := by
 obtain ⟨ad, rfl, x0⟩ := r.nat 0 (by omega)
 obtain ⟨_, e1, x1⟩ := r.nat 1 (by omega)
 obtain rfl := Option.some.inj e1
 obtain ⟨_, e2, x2⟩ := r.nat 2 (by omega)
 obtain rfl := Option.some.inj e2
 obtain ⟨_, e3, x3⟩ := r.nat 3 (by omega)
 obtain rfl := Option.some.inj e3
 obtain ⟨bd, rfl, y0⟩ := q.nat 0 (by omega)
 obtain ⟨_, e4, y1⟩ := q.nat 1 (by omega)
 obtain rfl := Option.some.inj e4
 obtain ⟨_, e5, y2⟩ := q.nat 2 (by omega)
 obtain rfl := Option.some.inj e5
 obtain ⟨_, e6, y3⟩ := q.nat 3 (by omega)
 obtain rfl := Option.some.inj e6
 rw [add_pos _ _ (by omega)] at x1 x2 x3 y1 y2 y3
 obtain ⟨D, hD⟩ : ∃ D, ghS a 0 = D := ⟨_, rfl⟩
 obtain ⟨E, hE⟩ : ∃ E, ghS b 0 = E := ⟨_, rfl⟩
 replace x0 : w.cell? ad = some (.int .i64 D.e) := by rw [← hD]; exact x0
 replace x1 : w.cell? ⟨ad.block, ad.off + 1, none⟩ = some (.int .i64 D.l) := by rw [← hD]; exact x1
 replace x2 : w.cell? ⟨ad.block, ad.off + 2, none⟩ = some (.int .i64 D.m) := by rw [← hD]; exact x2
 replace x3 : w.cell? ⟨ad.block, ad.off + 3, none⟩ = some (.int .i64 D.s) := by rw [← hD]; exact x3
 replace y0 : w.cell? bd = some (.int .i64 E.e) := by rw [← hE]; exact y0
 replace y1 : w.cell? ⟨bd.block, bd.off + 1, none⟩ = some (.int .i64 E.l) := by rw [← hE]; exact y1
 replace y2 : w.cell? ⟨bd.block, bd.off + 2, none⟩ = some (.int .i64 E.m) := by rw [← hE]; exact y2
 replace y3 : w.cell? ⟨bd.block, bd.off + 3, none⟩ = some (.int .i64 E.s) := by rw [← hE]; exact y3
 rw [hD] at ha ⊢
 rw [hE] at hb ⊢
 obtain ⟨y, hy⟩ : ∃ y, faceV D E t = y := ⟨_, rfl⟩
 rw [hy]
 have HY := hid hy
 have HFX := hid (ha.fx hb)
 clear hD hE e1 e2 e3 e4 e5 e6 hy ha hb r q
 by_cases h0 : D.e = 1
 case neg =>
  have HZ := hid (show y = 0 by rw [← HY.out]; exact faceV_no fun e => h0 e.1)
  have t1 : (D.e != 1) = true := by simp [h0]
  clear h0
  go_enter Try.func48, Try.ntmps48
  go_wp2
  go_quiet (fail)
  go_wp2
  go_ret
  exact ⟨ret_int HZ.out.symm, ⟨_, rfl⟩⟩
 by_cases h1 : E.e = 1
 case neg =>
  have HZ := hid (show y = 0 by rw [← HY.out]; exact faceV_no fun e => h1 e.2)
  have t1 : (D.e != 1) = false := by simp [h0]
  have t2 : (E.e != 1) = true := by simp [h1]
  clear h0 h1
  go_enter Try.func48, Try.ntmps48
  go_wp2
  go_quiet (fail)
  go_wp2
  go_ret
  exact ⟨ret_int HZ.out.symm, ⟨_, rfl⟩⟩
 have t1 : (D.e != 1) = false := by simp [h0]
 have t2 : (E.e != 1) = false := by simp [h1]
 cases hact : actB t (bigMax D.l E.l) with
 | false =>
  have HZ := hid (show y = 0 by rw [← HY.out, faceV, if_neg (fun e => by rw [hact] at e; cases e.2.2)])
  have HA := hid hact
  clear h0 h1 hact
  go_enter Try.func48, Try.ntmps48
  go_wp2
  go_quiet ((go_at_call 88; exact Calls.quiet_of_same ((toBool (spec_IsActive t _ _ ht) HA.out).mono fun e w' h => ⟨h.1, h.2.symm⟩)))
  go_wp2
  go_ret
  exact ⟨ret_int HZ.out.symm, ⟨_, rfl⟩⟩
 | true =>
  have HZ := hid (show y = pairF D.s E.s D.m E.m D.l E.l by rw [← HY.out, faceV, if_pos ⟨h0, h1, hact⟩])
  have HA := hid hact
  clear h0 h1 hact
  go_enter Try.func48, Try.ntmps48
  go_wp2
  go_quiet ((go_at_call 88; exact Calls.quiet_of_same ((toBool (spec_IsActive t _ _ ht) HA.out).mono fun e w' h => ⟨h.1, h.2.symm⟩)))
  go_wp2
  replace x1 : (w.drewN nq).cell? ⟨ad.block, ad.off + 1, none⟩ = some (.int .i64 D.l) := x1
  replace x2 : (w.drewN nq).cell? ⟨ad.block, ad.off + 2, none⟩ = some (.int .i64 D.m) := x2
  replace x3 : (w.drewN nq).cell? ⟨ad.block, ad.off + 3, none⟩ = some (.int .i64 D.s) := x3
  replace y1 : (w.drewN nq).cell? ⟨bd.block, bd.off + 1, none⟩ = some (.int .i64 E.l) := y1
  replace y2 : (w.drewN nq).cell? ⟨bd.block, bd.off + 2, none⟩ = some (.int .i64 E.m) := y2
  replace y3 : (w.drewN nq).cell? ⟨bd.block, bd.off + 3, none⟩ = some (.int .i64 E.s) := y3
  have d2 : Drawn0 w (w.drewN nq) := ⟨⟨_, rfl⟩⟩
  generalize w.drewN nq = w2 at *
  go_quiet ((go_at_call 89; exact Calls.quiet_of_same ((spec_l09Pair _ _ _ _ _ _ _ HFX.out).mono fun e w' h => ⟨h.1, h.2.symm⟩)))
  go_wp2
  go_ret
  exact ⟨ret_int HZ.out.symm, d2.step _⟩
end Go.Proofs.Ytkhjkcefkampkaa.U
