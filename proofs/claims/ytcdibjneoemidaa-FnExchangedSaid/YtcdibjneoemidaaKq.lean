
/- A drawn script. -/
import Derived.Test.YtcdibjneoemidaaDp
set_option linter.unusedVariables false
set_option linter.unusedSimpArgs false
namespace Go.Proofs.Ytcdibjneoemidaa.U
open Go.RowKit Go.Lib Go.Proofs.YtcdibjneoemidaaW.PrintWords

set_option maxHeartbeats 4000000 in
theorem l02Any (w0 : World) (g : Nat) (w : World) (h : Cur w0 w g) :
    Calls Try.prog 54 #[.pointer (some ⟨g, 0, none⟩)] w fun e w' => (∃ x : Int, e = .returned (.int .i64 x)) ∧ Cur w0 w' g ∧ w.grownBy w' (some g) := by
  go_enter Try.func54, Try.ntmps54
  go_wp2_with fail
  refine (l01Once w0 g _ _ h).mono ?_
  rintro e w1 ⟨⟨b, rfl⟩, hC, hG⟩
  cases b with
  | true =>
    go_wp2_with fail
    have hK : OI (w1.alloc (.cells #[.int .i64 9223372036854775807, .int .i64 (-9223372036854775808), .int .i64 1000000000000000, .int .i64 1000000000000001, .int .i64 (-1000000000000000), .int .i64 (-1000000000000001)] 3)) w1.heap.size (.slice (some ⟨w1.heap.size, 0, none⟩) 6 6) 6 [9223372036854775807, -9223372036854775808, 1000000000000000, 1000000000000001, -1000000000000000, -1000000000000001] := ⟨own_lit w1 w1.heap.size 3 .i64 [9223372036854775807, -9223372036854775808, 1000000000000000, 1000000000000001, -1000000000000000, -1000000000000001] (Nat.le_refl _) (by simp)⟩
    have g4 : w1.grownBy (w1.alloc (.cells #[.int .i64 9223372036854775807, .int .i64 (-9223372036854775808), .int .i64 1000000000000000, .int .i64 1000000000000001, .int .i64 (-1000000000000000), .int .i64 (-1000000000000001)] 3)) none := World.grownBy_alloc _ _ none
    generalize w1.alloc (.cells #[.int .i64 9223372036854775807, .int .i64 (-9223372036854775808), .int .i64 1000000000000000, .int .i64 1000000000000001, .int .i64 (-1000000000000000), .int .i64 (-1000000000000001)] 3) = w4 at *
    have hl3 := hC.lt
    refine (l01PickInt w0 g _ 6 6 [9223372036854775807, -9223372036854775808, 1000000000000000, 1000000000000001, -1000000000000000, -1000000000000001] _ (hC.next g4 (fun j e => by cases e)) (by omega) rfl (by omega) (fun w' hg => (hK.cur hg hl3).ri)).mono ?_
    rintro e w5 ⟨⟨k, rfl, hk⟩, hC5, hG5⟩
    clear hk
    go_wp2
    go_ret
    exact ⟨⟨_, rfl⟩, hC5, (grown_then hG g4 (fun j e => by cases e)).trans hG5⟩
  | false =>
    go_wp2_with fail
    refine (l01Below w0 g _ _ hC).mono ?_
    rintro e w5 ⟨⟨k, rfl, _, _⟩, hC5, hG5⟩
    go_wp2
    go_ret
    exact ⟨⟨_, rfl⟩, hC5, hG.trans hG5⟩
set_option maxHeartbeats 8000000 in
theorem l23Script (w0 : World) (g : Nat) (w : World) (h : Cur w0 w g) :
    Calls Try.prog 41 #[.pointer (some ⟨g, 0, none⟩)] w fun e w' => ∃ A n c l B m d sc, e = .returned (.tuple #[.slice A n c, .slice B m d]) ∧ OI w' w.heap.size (.slice A n c) n l ∧ OI w' w.heap.size (.slice B m d) m sc ∧ (n ≤ 19 ∧ m ≤ 39 ∧ ∀ x ∈ sc, 0 ≤ x ∧ x ≤ 1000) ∧ Cur w0 w' g := by
  have hlt := h.lt
  obtain ⟨W0, hW0⟩ : ∃ W0 : World, W0 = w.alloc (.cells #[] 3) := ⟨_, rfl⟩
  have o5 : OI W0 w.heap.size (.slice (some ⟨w.heap.size, 0, none⟩) 0 0) 0 [] := by rw [hW0]; exact OI.lit0 w w.heap.size (Nat.le_refl _)
  have g1 : w.grownBy W0 none := by rw [hW0]; exact World.grownBy_alloc _ _ none
  have c1 : Cur w0 W0 g := h.next g1 (fun j e => by cases e)
  have g2 : w.grownBy W0 (some g) := grown_then (grown_refl w (some g)) g1 (fun j e => by cases e)
  have HW := hid hW0
  clear hW0 g1
  go_enter Try.func41, Try.ntmps41
  go_wp2
  rw [← HW.out]
  go_loopw [4, 5] (fun v4 v5 wr => ∃ (k : Nat) (o : List Int), k ≤ 19 ∧ v5 = .int .i64 k ∧ OI wr w.heap.size v4 k o ∧ Cur w0 wr g ∧ w.grownBy wr (some g)) (fun _ v5 _ => 20 - (intOf v5).toNat)
  case atStart => exact ⟨0, [], by omega, rfl, o5, c1, g2⟩
  case round =>
    obtain ⟨k, o, hk, rfl, hO, hC, hG⟩ := hrel
    have hol := hO.len
    obtain ⟨Ao, co, rfl, _⟩ := hO.reads
    go_wp2_with fail
    refine (l01Below w0 g _ _ hC).mono ?_
    rintro e w2 ⟨⟨x, rfl, x1, x2⟩, hC2, hG2⟩
    have x2' := x2 (by omega)
    clear x2
    have hO2 := hO.cur hG2 hlt
    have hsz2 := (hG.trans hG2).size
    by_cases hkn : (k : Int) < x
    · have t1 : decide ((k : Int) < x) = true := decide_eq_true hkn
      go_wp2_with fail
      refine (l02Any w0 g _ hC2).mono ?_
      rintro e w3 ⟨⟨y, rfl⟩, hC3, hG3⟩
      have hO3 := hO2.cur hG3 hlt
      have hsz3 := Nat.le_trans hsz2 hG3.size
      subst hol
      go_wp2_with (at_builtin; refine print_append_num (w0 := w3) w.heap.size rfl _ _ 22 3 .i64 8 rfl Try.underlying22 info_int (by omega) (.slice Ao o.length co) o y rfl rfl hO3.out (Below.refl _ _) hsz3 (by omega) ?_; intro v1 w4 hown1 hB1 hg1 _)
      go_roundw
      case rel => exact ⟨o.length + 1, o ++ [y], by omega, by go_num, by have := OI.app hown1; rwa [List.length_append] at this, hC3.next hg1 (fun j e => Nat.lt_of_lt_of_le hlt (own_least hO3 j e)), grown_then ((hG.trans hG2).trans hG3) hg1 (own_least hO3)⟩
      case measure => simp [intOf]; omega
    · have t1 : decide ((k : Int) < x) = false := decide_eq_false hkn
      have hgw := hG.trans hG2
      have HO := hid hO2
      have HGW := hid hgw
      have b6 : w2.grownBy (w2.alloc (.cells #[] 3)) none := World.grownBy_alloc _ _ none
      have o6 : OI (w2.alloc (.cells #[] 3)) w2.heap.size (.slice (some ⟨w2.heap.size, 0, none⟩) 0 0) 0 [] := OI.lit0 w2 w2.heap.size (Nat.le_refl _)
      have c6 : Cur w0 (w2.alloc (.cells #[] 3)) g := hC2.next b6 (fun j e => by cases e)
      have g6 : w2.grownBy (w2.alloc (.cells #[] 3)) (some g) := grown_then (grown_refl w2 (some g)) b6 (fun j e => by cases e)
      have hlt2 : g < w2.heap.size := hC2.lt
      clear hO hO2 hC hC2 hG hG2 b6 hsz2 hgw x1 x2' hkn o5 c1 g2
      go_upto_region 7 with fail
      generalize w2.alloc (.cells #[] 3) = W6 at *
      go_wp2
      go_loopw [6, 7] (fun v6 v7 wr => ∃ (q : Nat) (o2 : List Int), q ≤ 39 ∧ v7 = .int .i64 q ∧ OI wr w2.heap.size v6 q o2 ∧ Cur w0 wr g ∧ w2.grownBy wr (some g) ∧ Hid (∀ x ∈ o2, 0 ≤ x ∧ x ≤ 1000)) (fun _ v7 _ => 40 - (intOf v7).toNat)
      case atStart => exact ⟨0, [], by omega, rfl, o6, c6, g6, hid (by simp)⟩
      case round =>
        obtain ⟨q, o2, hq, rfl, hP, hC, hG, hX⟩ := hrel
        have hpl := hP.len
        obtain ⟨Ap, cp, rfl, _⟩ := hP.reads
        go_wp2_with fail
        refine (l01Below w0 g _ _ hC).mono ?_
        rintro e w3 ⟨⟨x, rfl, x1, x2⟩, hC2, hG2⟩
        have x2' := x2 (by omega)
        clear x2
        have hP2 := hP.cur hG2 hlt2
        have hsz2 := (hG.trans hG2).size
        by_cases hkn : (q : Int) < x
        · have t1 : decide ((q : Int) < x) = true := decide_eq_true hkn
          have e1 : IntKind.i64.wrap (2 * (k : Int)) = 2 * (k : Int) := i64w (by omega) (by omega)
          have e2 : IntKind.i64.wrap (2 * (k : Int) + 3) = 2 * (k : Int) + 3 := i64w (by omega) (by omega)
          go_wp2_with fail
          refine (l01Below w0 g _ _ hC2).mono ?_
          rintro e w4 ⟨⟨y, rfl, y1, y2⟩, hC3, hG3⟩
          have y2' := y2 (by omega)
          clear y2 e1 e2
          have hP3 := hP2.cur hG3 hlt2
          have hsz3 := Nat.le_trans hsz2 hG3.size
          have hX2 := hid (show ∀ x ∈ o2 ++ [y], 0 ≤ x ∧ x ≤ 1000 by
            intro z hz
            rw [List.mem_append, List.mem_singleton] at hz
            rcases hz with hz | rfl
            · exact hX.out z hz
            · omega)
          subst hpl
          go_wp2_with (at_builtin; refine print_append_num (w0 := w4) w2.heap.size rfl _ _ 22 3 .i64 8 rfl Try.underlying22 info_int (by omega) (.slice Ap o2.length cp) o2 y rfl rfl hP3.out (Below.refl _ _) hsz3 (by omega) ?_; intro v1 w5 hown1 hB1 hg1 _)
          go_roundw
          case rel => exact ⟨o2.length + 1, o2 ++ [y], by omega, by go_num, by have := OI.app hown1; rwa [List.length_append] at this, hC3.next hg1 (fun j e => Nat.lt_of_lt_of_le hlt2 (own_least hP3 j e)), grown_then ((hG.trans hG2).trans hG3) hg1 (own_least hP3), hX2⟩
          case measure => simp [intOf]; omega
        · have t1 : decide ((q : Int) < x) = false := decide_eq_false hkn
          go_wp2
          go_ret2
          exact ⟨Ao, k, co, o, Ap, q, cp, o2, rfl, HO.out.cur (hG.trans hG2) hlt, hP2.base HGW.out.size, ⟨hk, hq, hX.out⟩, hC2⟩
set_option maxHeartbeats 4000000 in
theorem DrawScript (A0 : Option Addr) (n0 c0 : Nat) (bytes : List Int) (w : World) (r : ReadsInt w .u8 A0 n0 bytes) (hby : ∀ x ∈ bytes, 0 ≤ x ∧ x ≤ 255) (hn : n0 ≤ 1048576) :
    Calls Try.prog 16 #[.slice A0 n0 c0] w fun e w' => ∃ A n c l B m d sc, e = .returned (.tuple #[.slice A n c, .slice B m d]) ∧ OI w' w.heap.size (.slice A n c) n l ∧ OI w' w.heap.size (.slice B m d) m sc ∧ (n ≤ 19 ∧ m ≤ 39 ∧ ∀ x ∈ sc, 0 ≤ x ∧ x ≤ 1000) ∧ Bw w w' := by
  have HB := hid hby
  clear hby
  go_enter Try.func16, Try.ntmps16
  go_wp2_with fail
  refine (l01New A0 n0 c0 bytes _ r HB.out hn).mono ?_
  rintro e w1 ⟨g, rfl, hC⟩
  go_wp2_with fail
  refine (l23Script w g _ hC).mono ?_
  rintro e w2 ⟨A, n, c, l, B, m, d, sc, rfl, hl, hs, hb, hC2⟩
  go_wp2
  go_ret2
  exact ⟨A, n, c, l, B, m, d, sc, rfl, hl.base hC.below.size, hs.base hC.below.size, hb, ⟨hC2.below⟩⟩
end Go.Proofs.Ytcdibjneoemidaa.U
