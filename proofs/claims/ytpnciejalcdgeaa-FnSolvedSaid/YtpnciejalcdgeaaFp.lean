
/- The fine part of a correction, and numbers and lists kept in range, by the program and by the reference. -/
import Derived.Test.YtpnciejalcdgeaaSy
import Derived.Test.YtpnciejalcdgeaaAp
set_option linter.unusedVariables false
set_option linter.unusedSimpArgs false
namespace Go.Proofs.Ytpnciejalcdgeaa.U
open Go.RowKit Go.Lib Go.Proofs.YtpnciejalcdgeaaW.PrintWords

attribute [local go_sem] go_max2 go_min2
/-- a number kept in range -/
def cl (x : Int) : Int := if x < -1000000000 then -1000000000 else if 1000000000 < x then 1000000000 else x
theorem cl_range (x : Int) : -1000000000 ≤ cl x ∧ cl x ≤ 1000000000 := by unfold cl; split; omega; split <;> omega
theorem cl_id {x : Int} (h : -1000000000 ≤ x ∧ x ≤ 1000000000) : cl x = x := by unfold cl; rw [if_neg (by omega), if_neg (by omega)]
theorem clamp_cl (x : Int) : smallMin (bigMax x (-1000000000)) 1000000000 = cl x := by unfold smallMin bigMax cl; split <;> split <;> (try split) <;> (try split) <;> omega
theorem impl_Clamp (x : Int) (w : World) : Calls Try.prog 64 #[.int .i64 x, .int .i64 (-1000000000), .int .i64 1000000000] w fun e w' => e = .returned (.int .i64 (cl x)) ∧ w = w' := by
  rw [← clamp_cl x]
  go_enter Try.func64, Try.ntmps64
  go_wp2
  go_ret
  exact ⟨rfl, rfl⟩
theorem spec_Clamp (x : Int) (w : World) : Calls Try.prog 42 #[.int .i64 x, .int .i64 (-1000000000), .int .i64 1000000000] w fun e w' => e = .returned (.int .i64 (cl x)) ∧ w = w' := by
  by_cases h1 : x < -1000000000
  · have t1 : decide (x < -1000000000) = true := decide_eq_true h1
    have hr : cl x = -1000000000 := by unfold cl; rw [if_pos h1]
    rw [hr]
    clear hr h1
    go_enter Try.func42, Try.ntmps42
    go_wp2
    go_ret
    exact ⟨rfl, rfl⟩
  · have t1 : decide (x < -1000000000) = false := decide_eq_false h1
    by_cases h2 : 1000000000 < x
    · have t2 : decide (1000000000 < x) = true := decide_eq_true h2
      have hr : cl x = 1000000000 := by unfold cl; rw [if_neg h1, if_pos h2]
      rw [hr]
      clear hr h1 h2
      go_enter Try.func42, Try.ntmps42
      go_wp2
      go_ret
      exact ⟨rfl, rfl⟩
    · have t2 : decide (1000000000 < x) = false := decide_eq_false h2
      have hr : cl x = x := by unfold cl; rw [if_neg h1, if_neg h2]
      rw [hr]
      clear hr h1 h2
      go_enter Try.func42, Try.ntmps42
      go_wp2
      go_ret
      exact ⟨rfl, rfl⟩
/-- a list kept in range, its first places -/
def clTo (l : List Int) (j : Nat) : List Int := (List.range j).map fun i => cl (rd l ((i : Nat) : Int))
theorem clTo_length (l : List Int) (j : Nat) : (clTo l j).length = j := by simp [clTo]
theorem clTo_snoc (l : List Int) (j : Nat) : clTo l (j + 1) = clTo l j ++ [cl (rd l (j : Int))] := by simp [clTo, List.range_succ]
set_option maxHeartbeats 4000000 in
theorem spec_l21Clamp (A : Option Addr) (n c : Nat) (l : List Int) (w : World) (r : RI w A n l) (hn : n ≤ 1000000) :
    Calls Try.prog 38 #[.slice A n c] w fun e w' => ∃ v, e = .returned v ∧ OI w' w.heap.size v n (clTo l n) ∧ Bw w w' := by
  have o0 := OI.lit0 w w.heap.size (Nat.le_refl _)
  have b0 : Bw w (w.alloc (.cells #[] 3)) := (Bw.refl w).alloc _
  have HN := hid (clTo_length l)
  obtain ⟨R, HR⟩ : ∃ R, Hid (R = clTo l n) := ⟨_, hid rfl⟩
  rw [← HR.out]
  go_enter Try.func38, Try.ntmps38
  go_wp2
  go_loopw [3, 4] (fun v i wr => ∃ j : Nat, j ≤ n ∧ i = .int .i64 j ∧ OI wr w.heap.size v (clTo l j).length (clTo l j) ∧ Bw w wr) (fun _ i _ => n - (intOf i).toNat)
  case atStart => exact ⟨0, by omega, rfl, o0, b0⟩
  case round =>
    obtain ⟨j, hj, rfl, hO, hB⟩ := hrel
    have HS := hid (clTo_snoc l j)
    by_cases hlt : j < n
    · have t1 : decide ((j : Int) < (n : Int)) = true := decide_eq_true (by omega)
      obtain ⟨ad, rfl, hc⟩ := (r.to hB).nat j hlt
      generalize rd l (j : Int) = x at *
      go_wp2_with (first | (go_at_call 42; refine (spec_Clamp _ _).mono ?_; rintro e w' ⟨rfl, rfl⟩) | (at_builtin; refine print_append_num (w0 := w) w.heap.size rfl _ _ 24 3 .i64 8 rfl Try.underlying24 info_int (by omega) u3 (clTo l j) (cl x) rfl rfl hO.out hB.out hB.size (by rw [HN.out]; omega) ?_; intro v1 w3 hown1 hB1 hg1 _))
      go_roundw
      case rel => exact ⟨j + 1, by omega, by go_num, by rw [HS.out]; exact ⟨hown1⟩, ⟨hB1⟩⟩
      case measure => simp [intOf]; omega
    · obtain rfl : j = n := by omega
      have t1 : decide ((j : Int) < (j : Int)) = false := decide_eq_false (by omega)
      go_wp2
      go_ret
      rw [HN.out] at hO
      exact ⟨_, rfl, by rw [HR.out]; exact hO, hB⟩
/-- the fine part, its first places -/
def fineTo (l : List Int) (j : Nat) : List Int := (List.range j).map fun i => rd l ((i / 2 : Nat) : Int)
theorem fineTo_length (l : List Int) (j : Nat) : (fineTo l j).length = j := by simp [fineTo]
theorem fineTo_snoc (l : List Int) (j : Nat) : fineTo l (j + 1) = fineTo l j ++ [rd l ((j / 2 : Nat) : Int)] := by simp [fineTo, List.range_succ]
theorem tdiv2 (j : Nat) : Int.tdiv (j : Int) 2 = ((j / 2 : Nat) : Int) := by rw [Int.tdiv_eq_ediv_of_nonneg (by omega)]; omega
set_option maxHeartbeats 4000000 in
theorem impl_FinePart (A : Option Addr) (m c N : Nat) (l : List Int) (w : World) (r : RI w A m l) (hN : 1 ≤ N ∧ N ≤ 64) (hm : m = (N + 1) / 2) :
    Calls Try.prog 9 #[.slice A m c, .int .i64 N] w fun e w' => ∃ v, e = .returned v ∧ OI w' w.heap.size v N (fineTo l N) ∧ Bw w w' := by
  have o0 := OI.lit0 w w.heap.size (Nat.le_refl _)
  have b0 : Bw w (w.alloc (.cells #[] 3)) := (Bw.refl w).alloc _
  have HN := hid (fineTo_length l)
  have H1 := hid (inR_iff.2 (show 1 ≤ (N : Int) ∧ (N : Int) ≤ 64 by omega))
  have td : Int.tdiv ((N : Int) + 1) 2 = (m : Int) := by have := tdiv2 (N + 1); rw [hm]; push_cast at this ⊢; exact this
  have t0 : ((m : Int) != wrap64 (m : Int)) = false := by rw [w64 (by omega) (by omega)]; simp
  have HM := hid hm
  clear hm
  obtain ⟨R, HR⟩ : ∃ R, Hid (R = fineTo l N) := ⟨_, hid rfl⟩
  rw [← HR.out]
  go_enter Try.func9, Try.ntmps9
  go_wp2_with fail
  refine (within _ _ _ _).mono ?_
  rintro e w' ⟨rfl, rfl⟩
  rw [H1.out]
  go_wp2
  go_loopw [5, 20] (fun v i wr => ∃ j : Nat, j ≤ N ∧ i = .int .i64 j ∧ OI wr w.heap.size v (fineTo l j).length (fineTo l j) ∧ Bw w wr) (fun _ i _ => N - (intOf i).toNat)
  case atStart => exact ⟨0, by omega, rfl, o0, b0⟩
  case round =>
    obtain ⟨j, hj, rfl, hO, hB⟩ := hrel
    have HS := hid (fineTo_snoc l j)
    by_cases hlt : j < N
    · have t1 : decide ((j : Int) < (N : Int)) = true := decide_eq_true (by omega)
      have tj := tdiv2 j
      have hq : j / 2 < m := by have := HM.out; omega
      obtain ⟨q, HQ⟩ : ∃ q, j / 2 = q := ⟨_, rfl⟩
      rw [HQ] at tj HS hq
      clear HQ
      have wq : wrap64 (q : Int) = (q : Int) := w64 (by omega) (by have := HM.out; omega)
      obtain ⟨ad, rfl, hc⟩ := (r.to hB).nat q hq
      generalize rd l (q : Int) = x at *
      go_wp2_with (at_builtin; refine print_append_num (w0 := w) w.heap.size rfl _ _ 24 3 .i64 8 rfl Try.underlying24 info_int (by omega) u5 (fineTo l j) x rfl rfl hO.out hB.out hB.size (by rw [HN.out]; omega) ?_; intro v1 w3 hown1 hB1 hg1 _)
      go_roundw
      case rel => exact ⟨j + 1, by omega, by go_num, by rw [HS.out]; exact ⟨hown1⟩, ⟨hB1⟩⟩
      case measure => simp [intOf]; omega
    · obtain rfl : j = N := by omega
      have t1 : decide ((j : Int) < (j : Int)) = false := decide_eq_false (by omega)
      go_wp2
      go_ret
      rw [HN.out] at hO
      exact ⟨_, rfl, by rw [HR.out]; exact hO, hB⟩
set_option maxHeartbeats 4000000 in
theorem spec_FinePart (A : Option Addr) (m c N : Nat) (l : List Int) (w : World) (r : RI w A m l) (hN : 1 ≤ N ∧ N ≤ 64) (hm : m = (N + 1) / 2) :
    Calls Try.prog 41 #[.slice A m c, .int .i64 N] w fun e w' => ∃ v, e = .returned v ∧ OI w' w.heap.size v N (fineTo l N) ∧ Bw w w' := by
  have o0 := OI.lit0 w w.heap.size (Nat.le_refl _)
  have b0 : Bw w (w.alloc (.cells #[] 3)) := (Bw.refl w).alloc _
  have HN := hid (fineTo_length l)
  have H1 := hid (inR_iff.2 (show 1 ≤ (N : Int) ∧ (N : Int) ≤ 64 by omega))
  have td : Int.tdiv ((N : Int) + 1) 2 = (m : Int) := by have := tdiv2 (N + 1); rw [hm]; push_cast at this ⊢; exact this
  have t0 : ((m : Int) != wrap64 (m : Int)) = false := by rw [w64 (by omega) (by omega)]; simp
  have HM := hid hm
  clear hm
  obtain ⟨R, HR⟩ : ∃ R, Hid (R = fineTo l N) := ⟨_, hid rfl⟩
  rw [← HR.out]
  go_enter Try.func41, Try.ntmps41
  go_wp2_with fail
  refine (l01In _ _ _ _).mono ?_
  rintro e w' ⟨rfl, rfl⟩
  rw [H1.out]
  go_wp2
  go_loopw [5, 6] (fun v i wr => ∃ j : Nat, j ≤ N ∧ i = .int .i64 j ∧ OI wr w.heap.size v (fineTo l j).length (fineTo l j) ∧ Bw w wr) (fun _ i _ => N - (intOf i).toNat)
  case atStart => exact ⟨0, by omega, rfl, o0, b0⟩
  case round =>
    obtain ⟨j, hj, rfl, hO, hB⟩ := hrel
    have HS := hid (fineTo_snoc l j)
    by_cases hlt : j < N
    · have t1 : decide ((j : Int) < (N : Int)) = true := decide_eq_true (by omega)
      have tj := tdiv2 j
      have hq : j / 2 < m := by have := HM.out; omega
      obtain ⟨q, HQ⟩ : ∃ q, j / 2 = q := ⟨_, rfl⟩
      rw [HQ] at tj HS hq
      clear HQ
      have wq : wrap64 (q : Int) = (q : Int) := w64 (by omega) (by have := HM.out; omega)
      obtain ⟨ad, rfl, hc⟩ := (r.to hB).nat q hq
      generalize rd l (q : Int) = x at *
      go_wp2_with (at_builtin; refine print_append_num (w0 := w) w.heap.size rfl _ _ 24 3 .i64 8 rfl Try.underlying24 info_int (by omega) u5 (fineTo l j) x rfl rfl hO.out hB.out hB.size (by rw [HN.out]; omega) ?_; intro v1 w3 hown1 hB1 hg1 _)
      go_roundw
      case rel => exact ⟨j + 1, by omega, by go_num, by rw [HS.out]; exact ⟨hown1⟩, ⟨hB1⟩⟩
      case measure => simp [intOf]; omega
    · obtain rfl : j = N := by omega
      have t1 : decide ((j : Int) < (j : Int)) = false := decide_eq_false (by omega)
      go_wp2
      go_ret
      rw [HN.out] at hO
      exact ⟨_, rfl, by rw [HR.out]; exact hO, hB⟩
end Go.Proofs.Ytpnciejalcdgeaa.U
