
/- A copy of a list of ints, as slices.Clone makes it. -/
import Derived.Test.YtaidbdogolhnjaaAp
import Derived.WalkSpells
set_option linter.unusedVariables false
set_option linter.unusedSimpArgs false
namespace Go.Proofs.Ytaidbdogolhnjaa.U
open Go.RowKit Go.Lib Go.Proofs.YtaidbdogolhnjaaW.PrintWords

theorem eql_nil (w : World) (a : Option Addr) (n c : Nat) : (binOp .eql 27 (.slice a n c) (.slice none 0 0)).run Try.prog w = .ok (.bool a.isNone) w := by
  exact Go.Lib.run_eql_slice_nil (h := Try.underlying27) ..
attribute [local go_sem] eql_nil
theorem cloneInts (A : Option Addr) (n c : Nat) (l : List Int) (w : World) (r : RI w A n l) (hn : n ≤ 1000000000) :
    Calls Try.prog 54 #[.slice A n c] w fun e w' => ∃ v, e = .returned v ∧ OI w' w.heap.size v n l ∧ Bw w w' := by
  have hl := r.len
  cases A with
  | none =>
    have h0 : n = 0 := by
      rcases Nat.eq_zero_or_pos n with h | h
      · exact h
      · obtain ⟨ad, e, _⟩ := r.nat 0 h
        cases e
    subst h0
    obtain rfl : l = [] := List.eq_nil_of_length_eq_zero hl
    go_enter Try.func54, Try.ntmps54
    go_wp2
    go_ret
    exact ⟨_, rfl, OI.nil _ _, Bw.refl _⟩
  | some ad =>
    have o6 : OI (w.alloc (.cells #[] 3)) w.heap.size (.slice (some ⟨w.heap.size, 0, none⟩) 0 0) 0 [] := OI.lit0 w w.heap.size (Nat.le_refl _)
    have b1 : Bw w (w.alloc (.cells #[] 3)) := (Bw.refl w).alloc _
    have r1 := r.to b1
    go_enter Try.func54, Try.ntmps54
    go_wp2_with (at_builtin; refine print_append_row (w0 := w) w.heap.size rfl _ _ 27 3 .i64 8 rfl Try.underlying27 info_int (by omega) (.slice (some ⟨w.heap.size, 0, none⟩) 0 0) [] l (some ad) n c rfl rfl o6.out r1.out b1.out b1.size (by simp; omega) ?_; intro v1 w3 hown1 hB1 hg1 _)
    go_ret
    exact ⟨_, rfl, ⟨by simpa [hl] using hown1⟩, ⟨hB1⟩⟩
end Go.Proofs.Ytaidbdogolhnjaa.U
