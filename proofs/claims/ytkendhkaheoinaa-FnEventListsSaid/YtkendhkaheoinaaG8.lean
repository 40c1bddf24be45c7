
/- The laws' sameInts over two slices that read alike; the laws' big. -/
import Derived.Test.YtkendhkaheoinaaAp
set_option linter.unusedVariables false
set_option linter.unusedSimpArgs false
namespace Go.Proofs.Ytkendhkaheoinaa.U
open Go.RowKit Go.Lib Go.Proofs.YtkendhkaheoinaaW.PrintWords
theorem lawbig (A : Option Addr) (n c : Nat) (w : World) : Calls Try.prog 6 #[.slice A n c] w fun e w' => e = .returned (.bool (decide (1048576 < (n : Int)))) ∧ w = w' := by
 go_enter Try.func6, Try.ntmps6
 go_wp2
 go_ret
 exact ⟨rfl, rfl⟩
end Go.Proofs.Ytkendhkaheoinaa.U
set_option linter.unusedVariables false
set_option linter.unusedSimpArgs false
namespace Go.Proofs.Ytkendhkaheoinaa.U
open Go.RowKit Go.Lib Go.Proofs.YtkendhkaheoinaaW.PrintWords
theorem oi_form {w : World} {base n c : Nat} {A : Option Addr} {l : List Int} (h : OI w base (.slice A n c) n l) (hn : 0 < n) : ∃ g, A = some ⟨g, 0, none⟩ ∧ base ≤ g := by
 obtain ⟨g, cap, e, hgb, hgl⟩ := h.out.form (by omega)
 obtain ⟨rfl, rfl⟩ : A = some ⟨g, 0, none⟩ ∧ c = cap := by injection e with e1 _ e3; exact ⟨e1, e3⟩
 exact ⟨g, rfl, hgb⟩
theorem oi_store {w : World} {base n c g : Nat} {l : List Int} (h : OI w base (.slice (some ⟨g, 0, none⟩) n c) n l) (j : Nat) (x : Int) : OI (w.setCell ⟨g, j, none⟩ (.int .i64 x)) base (.slice (some ⟨g, 0, none⟩) n c) n (l.set j x) := by
 have hs := (own_store h.out (j : Int) x).1
 rw [Int.toNat_natCast] at hs
 exact ⟨hs⟩
theorem oi_cell {w : World} {base n c g : Nat} {l : List Int} (h : OI w base (.slice (some ⟨g, 0, none⟩) n c) n l) (j : Nat) (hj : j < n) : w.cell? ⟨g, j, none⟩ = some (.int .i64 (rd l (j : Int))) ∧ w.frozen? ⟨g, j, none⟩ = false := by
 have hl := h.len
 have h2 := own_at h.out (j : Int) (by omega) (by omega)
 rw [Int.toNat_natCast] at h2
 obtain ⟨ad, e, hc⟩ := h.ri.nat j hj
 obtain rfl := Option.some.inj e
 have e2 : (⟨g, 0, none⟩ : Addr).add j = ⟨g, j, none⟩ := by
  rcases Nat.eq_zero_or_pos j with h0 | h0
  ·subst h0; simp [Addr.add]
  ·rw [add_pos _ _ h0]; simp
 rw [e2] at hc
 exact ⟨hc, h2.2⟩
end Go.Proofs.Ytkendhkaheoinaa.U
