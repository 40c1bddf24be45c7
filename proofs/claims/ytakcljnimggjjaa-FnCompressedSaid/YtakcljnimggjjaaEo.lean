/- ErrorOf of two valid lists of one length, by the program. -/
import Derived.Test.YtakcljnimggjjaaNr
import Derived.Test.YtakcljnimggjjaaAp
set_option linter.unusedVariables false
set_option linter.unusedSimpArgs false
namespace Go.Proofs.Ytakcljnimggjjaa.U
open Go.RowKit Go.Lib Go.Proofs.YtakcljnimggjjaaW.PrintWords

/-- the greatest difference of the first numbers -/
def gapMost (a b : List Int) : Nat → Int
  | 0 => 0
  | j + 1 => bigMax (gapMost a b j) (bigMax (rd a (j : Int) - rd b (j : Int)) (-(rd a (j : Int) - rd b (j : Int))))
theorem gapMost_range (a b : List Int) (B : Int) (hB : 0 ≤ B) : ∀ n : Nat, (∀ j : Nat, j < n → -B ≤ rd a (j : Int) - rd b (j : Int) ∧ rd a (j : Int) - rd b (j : Int) ≤ B) → 0 ≤ gapMost a b n ∧ gapMost a b n ≤ B
  | 0, _ => by simp [gapMost]; omega
  | n + 1, h => by
    have h1 := gapMost_range a b B hB n (fun j hj => h j (by omega))
    have h2 := h n (by omega)
    rw [gapMost, bigMax_max, bigMax_max]
    omega
attribute [local go_sem] go_max2
theorem gap_absolute (x : Int) (w : World) (h : -9223372036854775807 ≤ x ∧ x ≤ 9223372036854775807) :
    Calls Try.prog 79 #[.int .i64 x] w fun e w' => e = .returned (.int .i64 (bigMax x (-x))) ∧ w = w' := by
  have i1 : wrap64 (-x) = -x := w64 (by omega) (by omega)
  obtain ⟨h1, h2⟩ := h
  go_enter Try.func79, Try.ntmps79
  go_wp2
  go_ret
  exact ⟨rfl, rfl⟩
set_option maxHeartbeats 4000000 in
theorem impl_ErrorOf (A : Option Addr) (n c : Nat) (a : List Int) (B : Option Addr) (d : Nat) (b : List Int) (w : World) (r : RI w A n a) (q : RI w B n b) (ha : Bd a 1000000000000000) (hb : Bd b 1000000000000000) :
    Calls Try.prog 35 #[.slice A n c, .slice B n d] w fun e w' => e = .returned (.int .i64 (gapMost a b n)) ∧ w = w' := by
  have hmax := r.max
  have HLA := hid r.len
  have HLB := hid q.len
  have HA := hid ha
  have HBB := hid hb
  clear ha hb
  obtain ⟨R, HR⟩ : ∃ R, Hid (R = gapMost a b n) := ⟨_, hid rfl⟩
  rw [← HR.out]
  go_enter Try.func35, Try.ntmps35
  go_wp2
  go_loopw [5, 15] (fun v5 v15 wr => ∃ j : Nat, j ≤ n ∧ v5 = .int .i64 (gapMost a b j) ∧ v15 = .int .i64 j ∧ w = wr) (fun _ v15 _ => n - (intOf v15).toNat)
  case atStart => exact ⟨0, by omega, rfl, rfl, rfl⟩
  case round =>
    obtain ⟨j, hj, rfl, rfl, rfl⟩ := hrel
    by_cases hlt : j < n
    · have t1 : decide ((j : Int) < (n : Int)) = true := decide_eq_true (by omega)
      obtain ⟨ad, rfl, hc0⟩ := r.nat j hlt
      obtain ⟨ae, rfl, hc1⟩ := q.nat j hlt
      have hx := HA.out.out j (by rw [HLA.out]; exact hlt)
      have hy := HBB.out.out j (by rw [HLB.out]; exact hlt)
      have hs : Hid (gapMost a b (j + 1) = bigMax (gapMost a b j) (bigMax (rd a (j : Int) - rd b (j : Int)) (-(rd a (j : Int) - rd b (j : Int))))) := hid rfl
      generalize rd a (j : Int) = x at *
      generalize rd b (j : Int) = y at *
      generalize gapMost a b j = M at *
      have K1 := hid (inR_yes hx)
      have K2 := hid (inR_yes hy)
      have i1 : wrap64 (x - y) = x - y := w64 (by omega) (by omega)
      have HH := hid (And.intro hx hy)
      clear hx hy
      go_wp2_with fail
      refine (toBool (within _ _ _ _) K1.out).mono ?_
      rintro e w2 ⟨rfl, rfl⟩
      go_wp2_with fail
      refine (toBool (within _ _ _ _) K2.out).mono ?_
      rintro e w2 ⟨rfl, rfl⟩
      go_wp2_with fail
      refine (gap_absolute _ _ (by have := HH.out; omega)).mono ?_
      rintro e w2 ⟨rfl, rfl⟩
      go_wp2
      go_roundw
      case rel => exact ⟨j + 1, by omega, by rw [hs.out], by go_num, by trivial⟩
      case measure => simp [intOf]; omega
    · obtain rfl : j = n := by omega
      have t1 : decide ((j : Int) < (j : Int)) = false := decide_eq_false (by omega)
      go_wp2
      go_ret
      exact ⟨ret_int HR.out.symm, rfl⟩
end Go.Proofs.Ytakcljnimggjjaa.U
