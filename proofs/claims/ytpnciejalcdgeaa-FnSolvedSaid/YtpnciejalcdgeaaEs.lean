
/- The reference's ErrorBound. -/
import Derived.Test.YtpnciejalcdgeaaEb
set_option linter.unusedVariables false
set_option linter.unusedSimpArgs false
namespace Go.Proofs.Ytpnciejalcdgeaa.U
open Go.RowKit Go.Lib Go.Proofs.YtpnciejalcdgeaaW.PrintWords

theorem go_max3 (ats : Array TypeId) (ty : TypeId) (a b c : Int) : Builtin.max_ ats ty #[.int .i64 a, .int .i64 b, .int .i64 c] = pure (.int .i64 (bigMax (bigMax a b) c)) := by
  simp [Builtin.max_, List.foldlM_cons, List.foldlM_nil, Builtin.max2, bigMax]
  try rfl
attribute [local go_sem] go_max3
set_option maxHeartbeats 4000000 in
theorem l20Most (A : Option Addr) (n c : Nat) (l : List Int) (w : World) (r : RI w A n l) (hb : Bd l 4002000000000000000) :
    Calls Try.prog 34 #[.slice A n c] w fun e w' => e = .returned (.int .i64 (absMost l n)) ∧ Drawn0 w w' := by
  have hmax := r.max
  have HL := hid r.len
  have HB := hid hb
  clear hb
  obtain ⟨R, HR⟩ : ∃ R, Hid (R = absMost l n) := ⟨_, hid rfl⟩
  rw [← HR.out]
  go_enter Try.func34, Try.ntmps34
  go_wp2
  go_loopw [3, 4] (fun v3 v4 wr => ∃ j : Nat, j ≤ n ∧ v3 = .int .i64 (absMost l j) ∧ v4 = .int .i64 j ∧ Hid (Drawn0 w wr)) (fun _ v4 _ => n - (intOf v4).toNat)
  case atStart => exact ⟨0, by omega, rfl, rfl, hid (Drawn0.refl _)⟩
  case round =>
    obtain ⟨j, hj, rfl, rfl, hD⟩ := hrel
    by_cases hlt : j < n
    · have t1 : decide ((j : Int) < (n : Int)) = true := decide_eq_true (by omega)
      obtain ⟨ad, rfl, hc0⟩ := (r.dr hD.out).nat j hlt
      have hx := HB.out.out j (by rw [HL.out]; exact hlt)
      have hs : Hid (absMost l (j + 1) = bigMax (bigMax (absMost l j) (rd l (j : Int))) (- rd l (j : Int))) := hid (by rw [absMost]; simp only [bigMax_max]; omega)
      generalize rd l (j : Int) = x at *
      generalize absMost l j = M at *
      have i1 : IntKind.i64.wrap (-x) = -x := i64w (by omega) (by omega)
      have i4 : (0 : Int) ≤ (j : Int) := by omega
      have i5 : (j : Int) < (n : Int) := by omega
      clear hx
      go_wp2
      go_quiet (fail)
      go_wp2
      go_roundw
      case rel => exact ⟨j + 1, by omega, by rw [hs.out], by go_num, hid (hD.out.step _)⟩
      case measure => simp [intOf]; omega
    · obtain rfl : j = n := by omega
      have t1 : decide ((j : Int) < (j : Int)) = false := decide_eq_false (by omega)
      go_wp2
      go_ret
      exact ⟨ret_int HR.out.symm, hD.out⟩
set_option maxHeartbeats 4000000 in
theorem spec_ErrorBound (A : Option Addr) (n c : Nat) (u : List Int) (B : Option Addr) (m d : Nat) (f : List Int) (k : Int) (w : World) (r : RI w A n u) (q : RI w B m f) :
    Calls Try.prog 15 #[.slice A n c, .slice B m d, .int .i64 k] w fun e w' => e = .returned (.int .i64 (errB u f k)) ∧ Bw w w' := by
  have hl := r.len
  have hl2 := q.len
  cases hs : sysOk u f k with
  | false =>
    rw [show errB u f k = -1 by simp [errB, hs]]
    have HS := hid hs; clear hs hl hl2
    go_enter Try.func15, Try.ntmps15
    go_wp2_with fail
    refine (spec_SystemOk A n c u B m d f k _ r q).mono ?_
    rintro e w1 ⟨rfl, d1⟩
    have b := Bw.drawn d1
    clear d1
    rw [HS.out]
    go_wp2
    go_ret
    exact ⟨rfl, b⟩
  | true =>
    obtain ⟨f1, f2, f3, f4, f5, f6⟩ := sysOk_facts hs
    have hb := resTo_bd u f k n (f3.mono (by omega)) (f4.mono (by omega)) (by omega) (by omega) f5 f6
    have HE := hid (show residualL u f k = resTo u f k n n by simp [residualL, hs, hl])
    have HLn := hid (resTo_length u f k n n)
    rw [show errB u f k = absMost (resTo u f k n n) n by simp [errB, hs, hl]]
    generalize resTo u f k n n = L at *
    have HS := hid hs
    clear hs hl hl2 f1 f2 f3 f4 f5 f6
    go_enter Try.func15, Try.ntmps15
    go_wp2_with fail
    refine (spec_SystemOk A n c u B m d f k _ r q).mono ?_
    rintro e w1 ⟨rfl, d1⟩
    have b := Bw.drawn d1
    clear d1
    rw [HS.out]
    go_wp2_with fail
    refine (spec_Residual A n c u B m d f k _ (r.to b) (q.to b)).mono ?_
    rintro e w2 ⟨v, rfl, o, b2⟩
    rw [HE.out, HLn.out] at o
    obtain ⟨C, cc, rfl, rr⟩ := o.reads
    go_wp2_with fail
    refine (l20Most C n cc L _ rr hb).mono ?_
    rintro e w3 ⟨rfl, d3⟩
    go_wp2
    go_ret
    exact ⟨rfl, (b.trans b2).trans (Bw.drawn d3)⟩
end Go.Proofs.Ytpnciejalcdgeaa.U
