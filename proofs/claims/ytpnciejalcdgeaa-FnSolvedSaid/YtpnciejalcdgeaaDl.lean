
/- Lists drawn from a cursor. -/
import Derived.Test.YtpnciejalcdgeaaDb
import Derived.Test.YtpnciejalcdgeaaNr
set_option linter.unusedVariables false
set_option linter.unusedSimpArgs false
namespace Go.Proofs.Ytpnciejalcdgeaa.U
open Go.RowKit Go.Lib Go.Proofs.YtpnciejalcdgeaaW.PrintWords

theorem grown_then {a b c : World} {row row2 : Option Nat} (h : a.grownBy b row) (k : b.grownBy c row2) (hr : ∀ j, row2 = some j → a.heap.size ≤ j) : a.grownBy c row :=
  ⟨k.os.trans h.os, k.tape.trans h.tape, k.output.trans h.output, Nat.le_trans h.size k.size, fun i hi hne => (k.block i (Nat.lt_of_lt_of_le hi h.size) (fun e => by have := hr i e.symm; omega)).trans (h.block i hi hne)⟩
theorem Cur.lt {w0 w : World} {g : Nat} (h : Cur w0 w g) : g < w.heap.size := by
  obtain ⟨A, n, c, bytes, i, hh, hblk, _⟩ := h.cells
  exact blk_lt hblk
theorem Cur.next {w0 w w' : World} {g : Nat} {row : Option Nat} (h : Cur w0 w g) (k : w.grownBy w' row) (hr : ∀ j, row = some j → g < j) : Cur w0 w' g := by
  have hg := h.lt
  refine ⟨h.lo, h.below.grown k h.below.size (fun j e => Nat.le_of_lt (Nat.lt_of_le_of_lt h.lo (hr j e))), ?_⟩
  obtain ⟨A, n, c, bytes, i, hh, hblk, rest⟩ := h.cells
  exact ⟨A, n, c, bytes, i, hh, (k.block g hg (fun e => by have := hr g e.symm; omega)).trans hblk, rest⟩
theorem OI.cur {w w' : World} {base n g : Nat} {v : Value} {l : List Int} (h : OI w base v n l) (hg : w.grownBy w' (some g)) (hb : g < base) : OI w' base v n l :=
  ⟨own_other h.out hg (.inr fun e => by have := own_base h.out g e; omega)⟩
theorem own_least {w : World} {base n : Nat} {v : Value} {l : List Int} (h : OI w base v n l) : ∀ j, v.ownBlock = some j → base ≤ j := fun j e => own_base h.out j e
set_option maxHeartbeats 4000000 in
theorem l20List (w0 : World) (g : Nat) (n : Nat) (w : World) (h : Cur w0 w g) (hn : n ≤ 1000) :
    Calls Try.prog 45 #[.pointer (some ⟨g, 0, none⟩), .int .i64 n] w fun e w' => ∃ v l, e = .returned v ∧ OI w' w.heap.size v n l ∧ Bd l 15000 ∧ Cur w0 w' g ∧ w.grownBy w' (some g) := by
  have hlt := h.lt
  obtain ⟨W0, hW0⟩ : ∃ W0 : World, W0 = w.alloc (.cells #[] 3) := ⟨_, rfl⟩
  have o5 : OI W0 w.heap.size (.slice (some ⟨w.heap.size, 0, none⟩) 0 0) 0 [] := by rw [hW0]; exact OI.lit0 w w.heap.size (Nat.le_refl _)
  have g1 : w.grownBy W0 none := by rw [hW0]; exact World.grownBy_alloc _ _ none
  have c1 : Cur w0 W0 g := h.next g1 (fun j e => by cases e)
  have g2 : w.grownBy W0 (some g) := grown_then (grown_refl w (some g)) g1 (fun j e => by cases e)
  have HW := hid hW0
  clear hW0 g1
  go_enter Try.func45, Try.ntmps45
  go_wp2
  rw [← HW.out]
  go_loopw [5, 6] (fun v5 v6 wr => ∃ (k : Nat) (o : List Int), k ≤ n ∧ v6 = .int .i64 k ∧ OI wr w.heap.size v5 k o ∧ Cur w0 wr g ∧ w.grownBy wr (some g) ∧ Hid (∀ x ∈ o, -15000 ≤ x ∧ x ≤ 15000)) (fun _ v6 _ => n - (intOf v6).toNat)
  case atStart => exact ⟨0, [], by omega, rfl, o5, c1, g2, hid (by simp)⟩
  case round =>
    obtain ⟨k, o, hk, rfl, hO, hC, hG, hX⟩ := hrel
    by_cases hkn : k < n
    · have t1 : decide ((k : Int) < (n : Int)) = true := decide_eq_true (by omega)
      have hol := hO.len
      obtain ⟨Ao, co, rfl, _⟩ := hO.reads
      go_wp2_with fail
      refine (l01Below w0 g _ _ hC).mono ?_
      rintro e w2 ⟨⟨x, rfl, x1, x2⟩, hC2, hG2⟩
      have x2' := x2 (by omega)
      clear x2
      have hO2 := hO.cur hG2 hlt
      have hsz2 := (hG.trans hG2).size
      subst hol
      have i1 : wrap64 (x - 5000) = x - 5000 := w64 (by omega) (by omega)
      have HX : Hid (∀ y ∈ o ++ [x - 5000], -15000 ≤ y ∧ y ≤ 15000) := hid (by
        intro y hy
        rw [List.mem_append, List.mem_singleton] at hy
        rcases hy with hy | rfl
        · exact hX.out y hy
        · omega)
      go_wp2_with (at_builtin; refine print_append_num (w0 := w2) w.heap.size rfl _ _ 24 3 .i64 8 rfl Try.underlying24 info_int (by omega) (.slice Ao o.length co) o (x - 5000) rfl rfl hO2.out (Below.refl _ _) hsz2 (by omega) ?_; intro v1 w3 hown1 hB1 hg1 _)
      go_roundw
      case rel => exact ⟨o.length + 1, o ++ [x - 5000], by omega, by go_num, by have := OI.app hown1; rwa [List.length_append] at this, hC2.next hg1 (fun j e => Nat.lt_of_lt_of_le hlt (own_least hO2 j e)), grown_then (hG.trans hG2) hg1 (own_least hO2), HX⟩
      case measure => simp [intOf]; omega
    · obtain rfl : k = n := by omega
      have t1 : decide ((k : Int) < (k : Int)) = false := decide_eq_false (by omega)
      go_wp2
      go_ret
      exact ⟨_, o, rfl, hO, Bd.of_mem hX.out, hC, hG⟩
end Go.Proofs.Ytpnciejalcdgeaa.U
