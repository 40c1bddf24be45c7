/- FirstDifference of the program and of the reference: both come to the same number. -/
import Derived.Test.YtbjdohceapijjaaA1
set_option linter.unusedVariables false
set_option linter.unusedSimpArgs false
namespace Go.Proofs.Ytbjdohceapijjaa.U
open Go.RowKit Go.Lib Go.Proofs.YtbjdohceapijjaaW.PrintWords

/-- the first place from i on at which two lists differ, among d places -/
def fdiff (a b : List Int) : Nat → Nat → Option Nat
  | 0, _ => none
  | d + 1, i => if rd a i = rd b i then fdiff a b d (i + 1) else some i
def firstFrom (a b : List Int) (i : Nat) : Int :=
  match fdiff a b (min a.length b.length - i) i with
  | some i => i
  | none => if a.length = b.length then (-1 : Int) else ((min a.length b.length : Nat) : Int)
def firstDiff (a b : List Int) : Int := firstFrom a b 0
theorem firstFrom_stop (a b : List Int) (i : Nat) (h : i < min a.length b.length) (hne : rd a i ≠ rd b i) : firstFrom a b i = i := by
  unfold firstFrom
  obtain ⟨d, hd⟩ : ∃ d, min a.length b.length - i = d + 1 := ⟨min a.length b.length - i - 1, by omega⟩
  rw [hd, fdiff, if_neg hne]
theorem firstFrom_go (a b : List Int) (i : Nat) (h : i < min a.length b.length) (he : rd a i = rd b i) : firstFrom a b i = firstFrom a b (i + 1) := by
  unfold firstFrom
  obtain ⟨d, hd⟩ : ∃ d, min a.length b.length - i = d + 1 := ⟨min a.length b.length - i - 1, by omega⟩
  rw [hd, fdiff, if_pos he, show min a.length b.length - (i + 1) = d by omega]
theorem firstFrom_end (a b : List Int) (i : Nat) (h : min a.length b.length ≤ i) : firstFrom a b i = (if a.length = b.length then (-1 : Int) else ((min a.length b.length : Nat) : Int)) := by
  unfold firstFrom
  rw [show min a.length b.length - i = 0 by omega]
  rfl
/-- What the walks need of it. -/
structure FirstDiff (l0 l1 : List Int) (n0 n1 : Nat) (F : Nat → Int) (R : Int) : Prop where
  start : F 0 = R
  go : ∀ k, k < min n0 n1 → rd l0 k = rd l1 k → F k = F (k + 1)
  stop : ∀ k, k < min n0 n1 → rd l0 k ≠ rd l1 k → F k = k
  done : F (min n0 n1) = if n0 = n1 then (-1 : Int) else ((min n0 n1 : Nat) : Int)
theorem firstDiff_is (l0 l1 : List Int) (n0 n1 : Nat) (e0 : l0.length = n0) (e1 : l1.length = n1) : FirstDiff l0 l1 n0 n1 (firstFrom l0 l1) (firstDiff l0 l1) :=
  ⟨rfl, fun k hk he => firstFrom_go l0 l1 k (by omega) he, fun k hk he => firstFrom_stop l0 l1 k (by omega) he, by rw [firstFrom_end l0 l1 _ (by omega), e0, e1]⟩

set_option maxHeartbeats 400000 in
theorem impl_FirstDifference (A0 : Option Addr) (n0 c0 : Nat) (l0 : List Int) (A1 : Option Addr) (n1 c1 : Nat) (l1 : List Int) (w : World) (hR0 : RI w A0 n0 l0) (hR1 : RI w A1 n1 l1) :
    Calls Try.prog 17 #[.slice A0 n0 c0, .slice A1 n1 c1] w fun e w' => e = .returned (.int .i64 (firstDiff l0 l1)) ∧ Drawn0 w w' := by
  have h0 := hR0.out; clear hR0
  have h1 := hR1.out; clear hR1
  have hl0 : n0 ≤ 9223372036854775807 := h0.2.1
  have hl1 : n1 ≤ 9223372036854775807 := h1.2.1
  have hF := firstDiff_is l0 l1 n0 n1 h0.1 h1.1
  generalize firstDiff l0 l1 = R at *
  generalize firstFrom l0 l1 = F at *
  have H0 := hid h0; clear h0
  have H1 := hid h1; clear h1
  have HF := hid hF; clear hF
  rcases Nat.lt_or_ge n1 n0 with hlt | hge
  all_goals
    go_enter Try.func17, Try.ntmps17
    go_wp2
    go_loopw [13] (fun v w' => ∃ k : Nat, k ≤ min n0 n1 ∧ v = .int .i64 k ∧ Hid (F k = R) ∧ Hid (Drawn0 w w')) (fun v _ => min n0 n1 - (intOf v).toNat)
    case atStart => exact ⟨0, by omega, rfl, hid HF.out.start, hid (Drawn0.refl _)⟩
    case round =>
      obtain ⟨k, hk, rfl, hF, hW⟩ := hrel
      by_cases hlt : k < min n0 n1
      · obtain ⟨ad0, rfl, hc0⟩ := ReadsInt.nat (ReadsInt.drawn H0.out hW.out) k (by omega)
        obtain ⟨ad1, rfl, hc1⟩ := ReadsInt.nat (ReadsInt.drawn H1.out hW.out) k (by omega)
        go_wp2
        go_quiet (fail)
        by_cases he : rd l0 k = rd l1 k
        · have hn : F (k + 1) = R := (HF.out.go k hlt he).symm.trans hF.out
          have HN := hid hn; clear hn
          go_wp2
          go_roundw
          case rel => exact ⟨k + 1, by omega, by go_num, HN, hid (hW.out.step _)⟩
          case measure => simp [intOf]; omega
        · have hr : R = k := hF.out.symm.trans (HF.out.stop k hlt he)
          have HR := hid hr; clear hr
          go_wp2
          go_ret
          exact ⟨ret_int HR.out.symm, hW.out.step _⟩
      · obtain rfl : k = min n0 n1 := by omega
        have hr := hF.out.symm.trans HF.out.done
        clear hF
        by_cases hnn : n0 = n1
        · rw [if_pos hnn] at hr
          have te : ((n0 : Int) == (n1 : Int)) = true := beq_iff_eq.mpr (by omega)
          have HR := hid hr; clear hr
          have HN := hid hnn; clear hnn
          first
          | (exfalso; have := HN.out; omega)
          | (go_wp2
             go_ret
             exact ⟨ret_int HR.out.symm, hW.out⟩)
        · rw [if_neg hnn] at hr
          have te : ((n0 : Int) == (n1 : Int)) = false := beq_eq_false_iff_ne.mpr (by omega)
          have HR := hid hr; clear hr
          go_wp2
          go_ret
          exact ⟨ret_int (by rw [HR.out]; omega), hW.out⟩
set_option maxHeartbeats 400000 in
theorem spec_FirstDifference (A0 : Option Addr) (n0 c0 : Nat) (l0 : List Int) (A1 : Option Addr) (n1 c1 : Nat) (l1 : List Int) (w : World) (hR0 : RI w A0 n0 l0) (hR1 : RI w A1 n1 l1) :
    Calls Try.prog 15 #[.slice A0 n0 c0, .slice A1 n1 c1] w fun e w' => e = .returned (.int .i64 (firstDiff l0 l1)) ∧ Drawn0 w w' := by
  have h0 := hR0.out; clear hR0
  have h1 := hR1.out; clear hR1
  have hl0 : n0 ≤ 9223372036854775807 := h0.2.1
  have hl1 : n1 ≤ 9223372036854775807 := h1.2.1
  have hF := firstDiff_is l0 l1 n0 n1 h0.1 h1.1
  generalize firstDiff l0 l1 = R at *
  generalize firstFrom l0 l1 = F at *
  have H0 := hid h0; clear h0
  have H1 := hid h1; clear h1
  have HF := hid hF; clear hF
  go_enter Try.func15, Try.ntmps15
  go_wp2
  go_loopw [5] (fun v w' => ∃ k : Nat, k ≤ min n0 n1 ∧ v = .int .i64 k ∧ Hid (F k = R) ∧ Hid (Drawn0 w w')) (fun v _ => min n0 n1 - (intOf v).toNat)
  case atStart => exact ⟨0, by omega, rfl, hid HF.out.start, hid (Drawn0.refl _)⟩
  case round =>
    obtain ⟨k, hk, rfl, hF, hW⟩ := hrel
    by_cases hlt : k < min n0 n1
    · obtain ⟨ad0, rfl, hc0⟩ := ReadsInt.nat (ReadsInt.drawn H0.out hW.out) k (by omega)
      obtain ⟨ad1, rfl, hc1⟩ := ReadsInt.nat (ReadsInt.drawn H1.out hW.out) k (by omega)
      have t0 : decide (k < n0) = true := decide_eq_true (by omega)
      have t1 : decide (k < n1) = true := decide_eq_true (by omega)
      have t2 : decide (n0 ≤ k) = false := decide_eq_false (by omega)
      have t3 : decide (n1 ≤ k) = false := decide_eq_false (by omega)
      by_cases he : rd l0 k = rd l1 k
      · have hn : F (k + 1) = R := (HF.out.go k hlt he).symm.trans hF.out
        have HN := hid hn; clear hn
        have te : (rd l0 k != rd l1 k) = false := by simp [he]
        clear he
        go_wp2
        go_quiet (fail)
        go_wp2
        go_roundw
        case rel => exact ⟨k + 1, by omega, by go_num, HN, hid (hW.out.step _)⟩
        case measure => simp [intOf]; omega
      · have hr : R = k := hF.out.symm.trans (HF.out.stop k hlt he)
        have HR := hid hr; clear hr
        have te : (rd l0 k != rd l1 k) = true := by simp [he]
        clear he
        go_wp2
        go_quiet (fail)
        go_wp2
        go_ret
        exact ⟨ret_int HR.out.symm, hW.out.step _⟩
    · obtain rfl : k = min n0 n1 := by omega
      have hr := hF.out.symm.trans HF.out.done
      clear hF
      by_cases hnn : n0 = n1
      · rw [if_pos hnn] at hr
        have HR := hid hr; clear hr
        obtain rfl : n0 = n1 := hnn
        simp only [Nat.min_self] at *
        have t0 : decide (n0 < n0) = false := decide_eq_false (by omega)
        go_wp2
        go_ret
        exact ⟨ret_int HR.out.symm, hW.out⟩
      · rw [if_neg hnn] at hr
        have HR := hid hr; clear hr
        rcases Nat.lt_or_ge n0 n1 with hlt | hge
        · rw [show min n0 n1 = n0 by omega] at *
          have t0 : decide (n0 < n0) = false := decide_eq_false (by omega)
          have t1 : decide (n0 < n1) = true := decide_eq_true (by omega)
          have t2 : decide (n0 ≤ n0) = true := decide_eq_true (by omega)
          go_wp2
          go_quiet (fail)
          go_wp2
          go_ret
          exact ⟨ret_int HR.out.symm, hW.out.step _⟩
        · have hgt : n1 < n0 := by omega
          rw [show min n0 n1 = n1 by omega] at *
          have t0 : decide (n1 < n0) = true := decide_eq_true (by omega)
          have t2 : decide (n0 ≤ n1) = false := decide_eq_false (by omega)
          have t3 : decide (n1 ≤ n1) = true := decide_eq_true (by omega)
          go_wp2
          go_quiet (fail)
          go_wp2
          go_ret
          exact ⟨ret_int HR.out.symm, hW.out.step _⟩
end Go.Proofs.Ytbjdohceapijjaa.U
