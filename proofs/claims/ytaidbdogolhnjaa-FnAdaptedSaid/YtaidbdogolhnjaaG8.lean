
/- The laws' sameInts over two slices that read alike; the laws' big. -/
import Derived.Test.YtaidbdogolhnjaaAp
set_option linter.unusedVariables false
set_option linter.unusedSimpArgs false
namespace Go.Proofs.Ytaidbdogolhnjaa.U
open Go.RowKit Go.Lib Go.Proofs.YtaidbdogolhnjaaW.PrintWords

theorem lawbig (A : Option Addr) (n c : Nat) (w : World) : Calls Try.prog 6 #[.slice A n c] w fun e w' => e = .returned (.bool (decide (1048576 < (n : Int)))) ∧ w = w' := by
  go_enter Try.func6, Try.ntmps6
  go_wp2
  go_ret
  exact ⟨rfl, rfl⟩
set_option maxHeartbeats 2000000 in
theorem sameInts_yes (A : Option Addr) (n c : Nat) (B : Option Addr) (d : Nat) (l : List Int) (w : World) (r : RI w A n l) (q : RI w B n l) :
    Calls Try.prog 18 #[.slice A n c, .slice B n d] w fun e w' => e = .returned (.bool true) ∧ Drawn0 w w' := by
  have hmax := r.max
  have HL := hid r.len
  go_enter Try.func18, Try.ntmps18
  go_wp2
  go_loopw [5] (fun v5 wr => ∃ j : Nat, j ≤ n ∧ v5 = .int .i64 j ∧ Hid (Drawn0 w wr)) (fun v5 _ => n - (intOf v5).toNat)
  case atStart => exact ⟨0, by omega, rfl, hid (Drawn0.refl _)⟩
  case round =>
    obtain ⟨j, hj, rfl, hD⟩ := hrel
    by_cases hlt : j < n
    · have t1 : decide ((j : Int) < (n : Int)) = true := decide_eq_true (by omega)
      obtain ⟨ad, rfl, hc0⟩ := (r.dr hD.out).nat j hlt
      obtain ⟨ae, rfl, hc1⟩ := (q.dr hD.out).nat j hlt
      generalize rd l (j : Int) = x at *
      have i4 : (0 : Int) ≤ (j : Int) := by omega
      have i5 : (j : Int) < (n : Int) := by omega
      go_wp2
      go_quiet (fail)
      go_wp2
      go_roundw
      case rel => exact ⟨j + 1, by omega, by go_num, hid (hD.out.step _)⟩
      case measure => simp [intOf]; omega
    · obtain rfl : j = n := by omega
      have t1 : decide ((j : Int) < (j : Int)) = false := decide_eq_false (by omega)
      go_wp2
      go_ret
      exact ⟨rfl, hD.out⟩
end Go.Proofs.Ytaidbdogolhnjaa.U
set_option linter.unusedVariables false
set_option linter.unusedSimpArgs false
namespace Go.Proofs.Ytaidbdogolhnjaa.U
open Go.RowKit Go.Lib Go.Proofs.YtaidbdogolhnjaaW.PrintWords

theorem oi_form {w : World} {base n c : Nat} {A : Option Addr} {l : List Int} (h : OI w base (.slice A n c) n l) (hn : 0 < n) : ∃ g, A = some ⟨g, 0, none⟩ ∧ base ≤ g := by
  obtain ⟨g, cap, e, hgb, hgl⟩ := h.out.form (by omega)
  obtain ⟨rfl, rfl⟩ : A = some ⟨g, 0, none⟩ ∧ c = cap := by injection e with e1 _ e3; exact ⟨e1, e3⟩
  exact ⟨g, rfl, hgb⟩
theorem oi_store {w : World} {base n c g : Nat} {l : List Int} (h : OI w base (.slice (some ⟨g, 0, none⟩) n c) n l) (j : Nat) (x : Int) : OI (w.setCell ⟨g, j, none⟩ (.int .i64 x)) base (.slice (some ⟨g, 0, none⟩) n c) n (l.set j x) := by
  have hs := (own_store h.out (j : Int) x).1
  rw [Int.toNat_natCast] at hs
  exact ⟨hs⟩
theorem oi_cell {w : World} {base n c g : Nat} {l : List Int} (h : OI w base (.slice (some ⟨g, 0, none⟩) n c) n l) (j : Nat) (hj : j < n) : w.cell? ⟨g, j, none⟩ = some (.int .i64 (rd l (j : Int))) ∧ w.frozen? ⟨g, j, none⟩ = false := by
  have hl := h.len
  have h2 := own_at h.out (j : Int) (by omega) (by omega)
  rw [Int.toNat_natCast] at h2
  obtain ⟨ad, e, hc⟩ := h.ri.nat j hj
  obtain rfl := Option.some.inj e
  have e2 : (⟨g, 0, none⟩ : Addr).add j = ⟨g, j, none⟩ := by
    rcases Nat.eq_zero_or_pos j with h0 | h0
    · subst h0; simp [Addr.add]
    · rw [add_pos _ _ h0]; simp
  rw [e2] at hc
  exact ⟨hc, h2.2⟩
theorem bw_store {w w1 : World} {g : Nat} (h : Bw w w1) (hg : w.heap.size ≤ g) (i : Nat) (u : Value) : Bw w (w1.setCell ⟨g, i, none⟩ u) := ⟨h.out.setCell (p := ⟨g, i, none⟩) hg u⟩
/-- the literal of two ints that an append of two numbers lays first -/
theorem lit2 (W : World) (x y : Int) : RI (W.alloc (.cells #[.int .i64 x, .int .i64 y] 3)) (some ⟨W.heap.size, 0, none⟩) 2 [x, y] := by
  have h : OI (W.alloc (.cells #[.int .i64 x, .int .i64 y] 3)) W.heap.size (.slice (some ⟨W.heap.size, 0, none⟩) 2 2) 2 [x, y] := ⟨own_lit W W.heap.size 3 .i64 [x, y] (Nat.le_refl _) (by simp)⟩
  exact h.ri
end Go.Proofs.Ytaidbdogolhnjaa.U
