
/- Which cuts are let in, by the program and by the reference. -/
import Derived.Test.YtaemkneppphkmaaG1
set_option linter.unusedVariables false
set_option linter.unusedSimpArgs false
namespace Go.Proofs.Ytaemkneppphkmaa.U
open Go.RowKit Go.Lib Go.Proofs.YtaemkneppphkmaaW.PrintWords

/-- a list that nowhere descends -/
def Asc (l : List Int) : Prop := ∀ j, 1 ≤ j → j < l.length → rd l ((j - 1 : Nat) : Int) ≤ rd l (j : Int)
noncomputable def ascB (l : List Int) : Bool := @decide (Asc l) (Classical.propDecidable _)
theorem ascB_yes {l : List Int} (h : Asc l) : ascB l = true := by unfold ascB; exact @decide_eq_true _ (Classical.propDecidable _) h
theorem ascB_no {l : List Int} (h : ¬ Asc l) : ascB l = false := by unfold ascB; exact @decide_eq_false _ (Classical.propDecidable _) h
theorem ascB_iff {l : List Int} : ascB l = true ↔ Asc l := by
  constructor
  · intro h; by_cases hc : Asc l
    · exact hc
    · rw [ascB_no hc] at h; cases h
  · exact ascB_yes
noncomputable def cutsOk (n : Int) (l : List Int) : Bool := inR l.length 2 17 && (rd l 0 == 0) && (rd l ((l.length - 1 : Nat) : Int) == n) && ascB l
theorem cutsOk_facts {n : Int} {l : List Int} (h : cutsOk n l = true) : (2 ≤ l.length ∧ l.length ≤ 17) ∧ rd l 0 = 0 ∧ rd l ((l.length - 1 : Nat) : Int) = n ∧ Asc l := by
  simp only [cutsOk, Bool.and_eq_true, inR_iff, beq_iff_eq, ascB_iff] at h
  obtain ⟨⟨⟨⟨h1, h1'⟩, h2⟩, h3⟩, h4⟩ := h
  exact ⟨⟨by omega, by omega⟩, h2, h3, h4⟩
theorem isNaN (x : Int) (w : World) : Calls Try.prog 112 #[.int .i64 x] w fun e w' => e = .returned (.bool false) ∧ w = w' := by
  go_enter Try.func112, Try.ntmps112
  go_wp2
  go_ret
  exact ⟨by simp, rfl⟩
theorem less (x y : Int) (w : World) : Calls Try.prog 92 #[.int .i64 x, .int .i64 y] w fun e w' => e = .returned (.bool (decide (x < y))) ∧ w = w' := by
  go_enter Try.func92, Try.ntmps92
  go_wp2_with (go_at_call 112; refine (isNaN _ _).mono ?_; rintro e w' ⟨rfl, rfl⟩)
  go_ret
  exact ⟨rfl, rfl⟩
set_option maxHeartbeats 2000000 in
theorem IsSorted (A : Option Addr) (n c : Nat) (l : List Int) (w : World) (r : RI w A n l) :
    Calls Try.prog 63 #[.slice A n c] w fun e w' => e = .returned (.bool (ascB l)) ∧ Drawn0 w w' := by
  have hm := r.max
  have hl := hid r.len
  go_enter Try.func63, Try.ntmps63
  go_wp2
  go_loopw [3] (fun i wr => ∃ k : Int, -1 ≤ k ∧ k < n ∧ i = .int .i64 k ∧ Hid (∀ j : Nat, k < j → 1 ≤ j → j < n → rd l ((j - 1 : Nat) : Int) ≤ rd l (j : Int)) ∧ Hid (Drawn0 w wr)) (fun i _ => (intOf i).toNat)
  case atStart => exact ⟨(n : Int) - 1, by omega, by omega, by go_num, hid (fun j h1 h2 h3 => by omega), hid (Drawn0.refl _)⟩
  case round =>
    obtain ⟨k, hk0, hk, rfl, hE, hD⟩ := hrel
    by_cases hpos : 0 < k
    · obtain ⟨kn, rfl⟩ : ∃ kn : Nat, k = ((kn + 1 : Nat) : Int) := ⟨(k - 1).toNat, by omega⟩
      obtain ⟨ad, rfl, hc1⟩ := (r.dr hD.out).nat (kn + 1) (by omega)
      obtain ⟨_, e, hc0⟩ := (r.dr hD.out).nat kn (by omega)
      obtain rfl := Option.some.inj e
      clear e
      rw [add_pos _ _ (by omega)] at hc1
      push_cast at hc1
      by_cases hd : rd l ((kn : Int) + 1) < rd l (kn : Int)
      · have hno := hid (ascB_no (l := l) (fun h => by have := h (kn + 1) (by omega) (by rw [hl.out]; omega); simp only [Nat.add_sub_cancel] at this; push_cast at this; omega))
        go_wp2
        go_quiet ((go_at_call 92; exact Calls.quiet_of_same ((less _ _ _).mono fun e w' h => ⟨h.1, h.2.symm⟩)))
        go_wp2
        go_ret
        exact ⟨ret_bool hno.out.symm, hD.out.step _⟩
      · have hE2 : Hid (∀ j : Nat, (kn : Int) < j → 1 ≤ j → j < n → rd l ((j - 1 : Nat) : Int) ≤ rd l (j : Int)) := hid (fun j h1 h2 h3 => by
          by_cases e : j = kn + 1
          · subst e; simp only [Nat.add_sub_cancel]; push_cast <;> omega
          · exact hE.out j (by omega) h2 h3)
        go_wp2
        go_quiet ((go_at_call 92; exact Calls.quiet_of_same ((less _ _ _).mono fun e w' h => ⟨h.1, h.2.symm⟩)))
        go_wp2
        go_roundw
        case rel => exact ⟨(kn : Int), by omega, by omega, by go_num, hE2, hid (hD.out.step _)⟩
        case measure => simp [intOf] <;> omega
    · go_wp2
      go_ret
      refine ⟨ret_bool (ascB_yes (fun j h1 h2 => ?_)).symm, hD.out⟩
      exact hE.out j (by omega) h1 (by rw [hl.out] at h2; exact h2)
theorem first_last (A : Option Addr) (n : Nat) (l : List Int) (w : World) (r : RI w A n l) (h : 2 ≤ n) : ∃ ad, A = some ad ∧ w.cell? (ad.add 0) = some (.int .i64 (rd l 0)) ∧ w.cell? (ad.add (n - 1)) = some (.int .i64 (rd l ((n - 1 : Nat) : Int))) := by
  obtain ⟨ad, rfl, h0⟩ := r.nat 0 (by omega)
  obtain ⟨_, e, h1⟩ := r.nat (n - 1) (by omega)
  obtain rfl := Option.some.inj e
  exact ⟨ad, rfl, h0, h1⟩
theorem add_zero' (ad : Addr) : ad.add 0 = ad := by simp [Addr.add]
set_option maxHeartbeats 2000000 in
theorem impl_CutsOk (N : Int) (A : Option Addr) (n c : Nat) (l : List Int) (w : World) (r : RI w A n l) :
    Calls Try.prog 35 #[.int .i64 N, .slice A n c] w fun e w' => e = .returned (.bool (cutsOk N l)) ∧ Drawn0 w w' := by
  have hl := r.len
  have hm := r.max
  cases hin : inR (n : Int) 2 17 with
  | false =>
    rw [show cutsOk N l = false by simp [cutsOk, hl, hin]]
    have HI := hid hin; clear hin hl
    go_enter Try.func35, Try.ntmps35
    go_wp2_with (go_at_call 60; refine (within _ _ _ _).mono ?_; rintro e w' ⟨rfl, rfl⟩; rw [HI.out])
    go_ret
    exact ⟨rfl, Drawn0.refl _⟩
  | true =>
    have h2 := inR_iff.1 hin
    obtain ⟨ad, rfl, c0, c1⟩ := first_last A n l w r (by omega)
    rw [add_zero'] at c0
    have e1 : ((n : Int) - 1).toNat = n - 1 := by omega
    have hco : cutsOk N l = ((rd l 0 == 0) && (rd l ((n - 1 : Nat) : Int) == N) && ascB l) := by simp [cutsOk, hl, hin]
    rw [hco]
    generalize rd l ((n - 1 : Nat) : Int) = x at *
    generalize hy : rd l 0 = y at *
    have HI := hid hin; clear hin hl hco hy
    obtain ⟨h3, h4⟩ := h2
    by_cases k0 : y = 0
    · have t0 : (y == 0) = true := beq_iff_eq.2 k0
      rw [t0, Bool.true_and]
      subst k0
      clear t0
      by_cases k1 : x = N
      · have t1 : (x == N) = true := beq_iff_eq.2 k1
        rw [t1, Bool.true_and]
        subst k1
        clear t1
        go_enter Try.func35, Try.ntmps35
        go_wp2_with (first | (go_at_call 60; refine (within _ _ _ _).mono ?_; rintro e w' ⟨rfl, rfl⟩; rw [HI.out]) | (go_at_call 63; refine (IsSorted _ _ _ _ _ r).mono ?_; rintro e w' ⟨rfl, d⟩))
        go_ret
        exact ⟨rfl, d⟩
      · have t1 : (x == N) = false := beq_eq_false_iff_ne.2 k1
        rw [t1, Bool.false_and]
        clear k1
        go_enter Try.func35, Try.ntmps35
        go_wp2_with (first | (go_at_call 60; refine (within _ _ _ _).mono ?_; rintro e w' ⟨rfl, rfl⟩; rw [HI.out]) | (go_at_call 63; refine (IsSorted _ _ _ _ _ r).mono ?_; rintro e w' ⟨rfl, d⟩))
        go_ret
        exact ⟨rfl, Drawn0.refl _⟩
    · have t0 : (y == 0) = false := beq_eq_false_iff_ne.2 k0
      rw [t0, Bool.false_and, Bool.false_and]
      clear k0
      go_enter Try.func35, Try.ntmps35
      go_wp2_with (first | (go_at_call 60; refine (within _ _ _ _).mono ?_; rintro e w' ⟨rfl, rfl⟩; rw [HI.out]) | (go_at_call 63; refine (IsSorted _ _ _ _ _ r).mono ?_; rintro e w' ⟨rfl, d⟩))
      go_ret
      exact ⟨rfl, Drawn0.refl _⟩
end Go.Proofs.Ytaemkneppphkmaa.U
