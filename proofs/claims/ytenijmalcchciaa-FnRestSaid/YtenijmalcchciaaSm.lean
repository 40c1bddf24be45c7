
/- The sum of a list of ints, by the program and by the reference. -/
import Derived.Test.YtenijmalcchciaaG1
set_option linter.unusedVariables false
set_option linter.unusedSimpArgs false
namespace Go.Proofs.Ytenijmalcchciaa.U
open Go.RowKit Go.Lib Go.Proofs.YtenijmalcchciaaW.PrintWords
theorem sum_snoc (l : List Int) (k : Nat) (hk : k < l.length) : (l.take (k + 1)).sum = (l.take k).sum + rd l (k : Int) := by
 rw [List.take_succ_eq_append_getElem hk, List.sum_append, rd_nat, List.getD_eq_getElem?_getD, List.getElem?_eq_getElem hk]
 simp
theorem sum_bound (l : List Int) (a b : Int) (h : ∀ x ∈ l, a ≤ x ∧ x ≤ b) : a * l.length ≤ l.sum ∧ l.sum ≤ b * l.length := by
 induction l with
 | nil => simp
 | cons x l ih =>
  have h1 := h x (by simp)
  have h2 := ih (fun y hy => h y (by simp [hy]))
  simp only [List.sum_cons, List.length_cons]
  push_cast
  rw [Int.mul_add, Int.mul_add]
  omega
structure SumOk (l : List Int) : Prop where mk :: (out : ∀ k, k ≤ l.length → -9223372036854775808 ≤ (l.take k).sum ∧ (l.take k).sum ≤ 9223372036854775807)
theorem sumOk_of (l : List Int) (B : Int) (hB : 0 ≤ B) (h : ∀ x ∈ l, -B ≤ x ∧ x ≤ B) (hl : B * l.length ≤ 9000000000000000000) : SumOk l := ⟨fun k hk => by
 have h1 := sum_bound (l.take k) (-B) B (fun x hx => h x (List.mem_of_mem_take hx))
 have h2 : ((l.take k).length : Int) ≤ l.length := by simp; omega
 have h3 : B * (l.take k).length ≤ B * l.length := Int.mul_le_mul_of_nonneg_left h2 hB
 rw [Int.neg_mul] at h1
 omega⟩
set_option maxHeartbeats 1000000 in
theorem impl_sum (A : Option Addr) (n c : Nat) (l : List Int) (w : World) (r : RI w A n l) (hs : SumOk l) :
  Calls Try.prog 131 #[.slice A n c] w fun e w' => e = .returned (.int .i64 l.sum) ∧ w = w' := by
 have hm := r.max
 have hl := hid r.len
 go_enter Try.func131, Try.ntmps131
 go_wp2
 go_loop [3, 8] (fun s i => ∃ k : Nat, k ≤ n ∧ i = .int .i64 k ∧ s = .int .i64 (l.take k).sum) (fun _ i => n - (intOf i).toNat)
 case atStart => exact ⟨0, by omega, rfl, by simp⟩
 case round =>
  obtain ⟨k, hk, rfl, rfl⟩ := hrel
  by_cases hlt : k < n
  ·obtain ⟨ad, rfl, hc⟩ := r.nat k hlt
   have h0 := hs.out k (by rw [hl.out]; omega)
   have h1 := hs.out (k + 1) (by rw [hl.out]; omega)
   rw [sum_snoc l k (by rw [hl.out]; omega)] at h1
   have hS : Hid ((l.take (k + 1)).sum = (l.take k).sum + rd l (k : Int)) := hid (sum_snoc l k (by rw [hl.out]; omega))
   generalize (l.take k).sum = s at *
   obtain ⟨h0a, h0b⟩ := h0
   obtain ⟨h1a, h1b⟩ := h1
   go_wp2
   go_round
   case rel => exact ⟨k + 1, by omega, by go_num, by rw [hS.out]⟩
   case measure => simp [intOf]; omega
  ·obtain rfl : k = n := by omega
   go_wp2
   go_ret
   exact ⟨ret_int (by rw [List.take_of_length_le (by rw [hl.out]; exact Nat.le_refl _)]), rfl⟩
set_option maxHeartbeats 1000000 in
theorem l07Sum (A : Option Addr) (n c : Nat) (l : List Int) (w : World) (r : RI w A n l) (hs : SumOk l) :
  Calls Try.prog 107 #[.slice A n c] w fun e w' => e = .returned (.int .i64 l.sum) ∧ w = w' := by
 have hm := r.max
 have hl := hid r.len
 go_enter Try.func107, Try.ntmps107
 go_wp2
 go_loop [3, 4] (fun s i => ∃ k : Nat, k ≤ n ∧ i = .int .i64 k ∧ s = .int .i64 (l.take k).sum) (fun _ i => n - (intOf i).toNat)
 case atStart => exact ⟨0, by omega, rfl, by simp⟩
 case round =>
  obtain ⟨k, hk, rfl, rfl⟩ := hrel
  by_cases hlt : k < n
  ·obtain ⟨ad, rfl, hc⟩ := r.nat k hlt
   have h0 := hs.out k (by rw [hl.out]; omega)
   have h1 := hs.out (k + 1) (by rw [hl.out]; omega)
   rw [sum_snoc l k (by rw [hl.out]; omega)] at h1
   have hS : Hid ((l.take (k + 1)).sum = (l.take k).sum + rd l (k : Int)) := hid (sum_snoc l k (by rw [hl.out]; omega))
   generalize (l.take k).sum = s at *
   obtain ⟨h0a, h0b⟩ := h0
   obtain ⟨h1a, h1b⟩ := h1
   go_wp2
   go_round
   case rel => exact ⟨k + 1, by omega, by go_num, by rw [hS.out]⟩
   case measure => simp [intOf]; omega
  ·obtain rfl : k = n := by omega
   go_wp2
   go_ret
   exact ⟨ret_int (by rw [List.take_of_length_le (by rw [hl.out]; exact Nat.le_refl _)]), rfl⟩
end Go.Proofs.Ytenijmalcchciaa.U
