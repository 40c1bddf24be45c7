
/- Drawn places. -/
import Derived.Test.YtaemkneppphkmaaNw
set_option linter.unusedVariables false
set_option linter.unusedSimpArgs false
namespace Go.Proofs.Ytaemkneppphkmaa.U
open Go.RowKit Go.Lib Go.Proofs.YtaemkneppphkmaaW.PrintWords

set_option maxHeartbeats 4000000 in
theorem DrawPlaces (A0 : Option Addr) (n0 c0 : Nat) (bytes : List Int) (w : World) (r : ReadsInt w .u8 A0 n0 bytes) (hby : ∀ x ∈ bytes, 0 ≤ x ∧ x ≤ 255) (hn : n0 ≤ 1048576) :
    Calls Try.prog 15 #[.slice A0 n0 c0] w fun e w' => ∃ A n c l, e = .returned (.slice A n c) ∧ OI w' w.heap.size (.slice A n c) n l ∧ (n = 12 ∧ ∀ x ∈ l, 0 ≤ x ∧ x < 10000) ∧ Bw w w' := by
  have HB := hid hby
  clear hby
  go_enter Try.func15, Try.ntmps15
  go_wp2_with fail
  refine (l01New A0 n0 c0 bytes _ r HB.out hn).mono ?_
  rintro e w1 ⟨g, rfl, hC0⟩
  have hlt := hC0.lt
  have o5 : OI (w1.alloc (.cells #[] 3)) w1.heap.size (.slice (some ⟨w1.heap.size, 0, none⟩) 0 0) 0 [] := OI.lit0 w1 w1.heap.size (Nat.le_refl _)
  have g1 : w1.grownBy (w1.alloc (.cells #[] 3)) none := World.grownBy_alloc _ _ none
  have c1 := hC0.next g1 (fun j e => by cases e)
  have g2 := grown_then (grown_refl w1 (some g)) g1 (fun j e => by cases e)
  have hbs := hC0.below.size
  clear g1 hC0
  go_wp2
  generalize w1.alloc (.cells #[] 3) = W0 at *
  go_loopw [4, 5] (fun v5 v6 wr => ∃ (k : Nat) (o : List Int), k ≤ 12 ∧ v6 = .int .i64 k ∧ OI wr w1.heap.size v5 k o ∧ Cur w wr g ∧ w1.grownBy wr (some g) ∧ Hid (∀ x ∈ o, 0 ≤ x ∧ x < 10000)) (fun _ v6 _ => 12 - (intOf v6).toNat)
  case atStart => exact ⟨0, [], by omega, rfl, o5, c1, g2, hid (by simp)⟩
  case round =>
    obtain ⟨k, o, hk, rfl, hO, hC, hG, hX⟩ := hrel
    by_cases hkn : k < 12
    · have t1 : decide ((k : Int) < 12) = true := decide_eq_true (by omega)
      have hol := hO.len
      obtain ⟨Ao, co, rfl, _⟩ := hO.reads
      go_wp2_with fail
      refine (l01Below w g _ _ hC).mono ?_
      rintro e w2 ⟨⟨x, rfl, x1, x2⟩, hC2, hG2⟩
      have x2' := x2 (by omega)
      clear x2
      have hO2 := hO.cur hG2 hlt
      have hsz2 := (hG.trans hG2).size
      subst hol
      have HX : Hid (∀ y ∈ o ++ [x], 0 ≤ y ∧ y < 10000) := hid (by
        intro y hy
        rw [List.mem_append, List.mem_singleton] at hy
        rcases hy with hy | rfl
        · exact hX.out y hy
        · omega)
      go_wp2_with (at_builtin; refine print_append_num (w0 := w2) w1.heap.size rfl _ _ 28 3 .i64 8 rfl Try.underlying28 info_int (by omega) (.slice Ao o.length co) o x rfl rfl hO2.out (Below.refl _ _) hsz2 (by omega) ?_; intro v1 w3 hown1 hB1 hg1 _)
      go_roundw
      case rel => exact ⟨o.length + 1, o ++ [x], by omega, by go_num, by have := OI.app hown1; rwa [List.length_append] at this, hC2.next hg1 (fun j e => Nat.lt_of_lt_of_le hlt (own_least hO2 j e)), grown_then (hG.trans hG2) hg1 (own_least hO2), HX⟩
      case measure => simp [intOf]; omega
    · obtain rfl : k = 12 := by omega
      obtain ⟨Ao, co, rfl, _⟩ := hO.reads
      go_wp2
      go_ret
      exact ⟨Ao, 12, co, o, rfl, hO.base hbs, ⟨rfl, hX.out⟩, ⟨hC.below⟩⟩
end Go.Proofs.Ytaemkneppphkmaa.U
