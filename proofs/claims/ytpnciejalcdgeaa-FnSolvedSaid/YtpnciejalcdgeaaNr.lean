
/- The neighbours of an unknown: their sum and their number. -/
import Derived.Test.YtpnciejalcdgeaaA2
import Derived.Deep.LoopGhost
set_option linter.unusedVariables false
set_option linter.unusedSimpArgs false
namespace Go.Proofs.Ytpnciejalcdgeaa.U
open Go.RowKit Go.Lib Go.Proofs.YtpnciejalcdgeaaW.PrintWords

/-- all elements lie in the range -B to B -/
structure Bd (l : List Int) (B : Int) : Prop where mk :: (out : ∀ j, j < l.length → -B ≤ rd l (j : Int) ∧ rd l (j : Int) ≤ B)
theorem Bd.of_mem {l : List Int} {B : Int} (h : ∀ x ∈ l, -B ≤ x ∧ x ≤ B) : Bd l B := ⟨fun j hj => by
  rw [rd_nat, List.getD_eq_getElem?_getD, List.getElem?_eq_getElem hj]
  exact h _ (List.getElem_mem hj)⟩
theorem Bd.mem {l : List Int} {B : Int} (h : Bd l B) : ∀ x ∈ l, -B ≤ x ∧ x ≤ B := fun x hx => by
  obtain ⟨j, hj, rfl⟩ := List.getElem_of_mem hx
  have := h.out j hj
  rwa [rd_nat, List.getD_eq_getElem?_getD, List.getElem?_eq_getElem hj] at this
def leftOf (u : List Int) (i : Nat) : Int := if 0 < i then rd u ((i - 1 : Nat) : Int) else 0
def rightOf (u : List Int) (n i : Nat) : Int := if i + 1 < n then rd u ((i + 1 : Nat) : Int) else 0
def nearCnt (n i : Nat) : Int := (if 0 < i then 1 else 0) + (if i + 1 < n then 1 else 0)
theorem nearCnt_range (n i : Nat) : 0 ≤ nearCnt n i ∧ nearCnt n i ≤ 2 := by unfold nearCnt; (repeat' split) <;> omega
set_option maxHeartbeats 2000000 in
theorem impl_around (A : Option Addr) (n c : Nat) (u : List Int) (i : Nat) (w : World) (r : RI w A n u) (hi : i < n) (hb : Bd u 1000000000000000) (hn : n ≤ 1000000) :
    Calls Try.prog 62 #[.slice A n c, .int .i64 i] w fun e w' => e = .returned (.tuple #[.int .i64 (leftOf u i + rightOf u n i), .int .i64 (nearCnt n i)]) ∧ Bw w w' := by
  have hl := hid r.len
  obtain ⟨W0, hW0⟩ : ∃ W0 : World, W0 = w.alloc (.cells #[.int .i64 ((i : Int) - 1), .int .i64 ((i : Int) + 1)] 3) := ⟨_, rfl⟩
  have b0 : Bw w W0 := ⟨by rw [hW0]; exact below_alloc (Below.refl _ _) _⟩
  have q := r.to b0
  have g0 : W0.cell? ⟨w.heap.size, 0, none⟩ = some (.int .i64 ((i : Int) - 1)) := by rw [hW0]; simp
  have g1 : W0.cell? ⟨w.heap.size, 1, none⟩ = some (.int .i64 ((i : Int) + 1)) := by rw [hW0]; simp
  have L0 := hid (show ∀ h : 0 < i, leftOf u i = rd u ((i - 1 : Nat) : Int) from fun h => by rw [leftOf, if_pos h])
  have L1 := hid (show ¬ 0 < i → leftOf u i = 0 from fun h => by rw [leftOf, if_neg h])
  have R0 := hid (show ∀ h : i + 1 < n, rightOf u n i = rd u ((i + 1 : Nat) : Int) from fun h => by rw [rightOf, if_pos h])
  have R1 := hid (show ¬ i + 1 < n → rightOf u n i = 0 from fun h => by rw [rightOf, if_neg h])
  have C := hid (show nearCnt n i = (if 0 < i then (1 : Int) else 0) + (if i + 1 < n then 1 else 0) from rfl)
  generalize leftOf u i = le at *
  generalize rightOf u n i = ri at *
  generalize nearCnt n i = cn at *
  go_enter Try.func62, Try.ntmps62
  go_wp2
  rw [← hW0]
  clear hW0
  go_loop [6, 7, 16] (fun v6 v7 v16 => ∃ (k : Nat) (s d : Int), v16 = .int .i64 k ∧ v6 = .int .i64 s ∧ v7 = .int .i64 d ∧ Hid ((k = 0 ∧ s = 0 ∧ d = 0) ∨ (k = 1 ∧ s = le ∧ d = (if 0 < i then (1 : Int) else 0)) ∨ (k = 2 ∧ s = le + ri ∧ d = cn))) (fun _ _ v16 => 2 - (intOf v16).toNat)
  case atStart => exact ⟨0, 0, 0, rfl, rfl, rfl, hid (.inl ⟨rfl, rfl, rfl⟩)⟩
  case round =>
    obtain ⟨k, s, d, rfl, rfl, rfl, hS⟩ := hrel
    rcases hS.out with ⟨rfl, rfl, rfl⟩ | ⟨rfl, rfl, rfl⟩ | ⟨rfl, rfl, rfl⟩
    · clear hS
      by_cases h0 : 0 < i
      · have hin := hid (inR_yes (n := (i : Int) - 1) (a := 0) (b := (n : Int) - 1) (by omega))
        obtain ⟨ad, rfl, hc⟩ := q.nat (i - 1) (by omega)
        have hbd := hb.out (i - 1) (by rw [hl.out]; omega)
        rw [show ((i - 1 : Nat) : Int) = (i : Int) - 1 by omega] at hc hbd
        have e1 : ((i : Int) - 1).toNat = i - 1 := by omega
        obtain ⟨b1, b2⟩ := hbd
        have hL := hid (L0.out h0)
        go_wp2_with (go_at_call 25; refine (within _ _ _ _).mono ?_; rintro e w' ⟨rfl, rfl⟩; rw [hin.out])
        go_round
        case rel => exact ⟨1, _, _, by go_num, rfl, rfl, hid (.inr (.inl ⟨rfl, by rw [hL.out, show ((i - 1 : Nat) : Int) = (i : Int) - 1 by omega], by rw [if_pos h0]⟩))⟩
        case measure => simp [intOf]
      · have hin := hid (inR_no (n := (i : Int) - 1) (a := 0) (b := (n : Int) - 1) (by omega))
        have hL := hid (L1.out h0)
        go_wp2_with (go_at_call 25; refine (within _ _ _ _).mono ?_; rintro e w' ⟨rfl, rfl⟩; rw [hin.out])
        go_round
        case rel => exact ⟨1, _, _, by go_num, rfl, rfl, hid (.inr (.inl ⟨rfl, hL.out.symm, by rw [if_neg h0]⟩))⟩
        case measure => simp [intOf]
    · clear hS
      have hle : -1000000000000000 ≤ s ∧ s ≤ 1000000000000000 := by
        by_cases h0 : 0 < i
        · rw [L0.out h0]; exact hb.out (i - 1) (by rw [hl.out]; omega)
        · rw [L1.out h0]; omega
      obtain ⟨b3, b4⟩ := hle
      by_cases h1 : i + 1 < n
      · have hin := hid (inR_yes (n := (i : Int) + 1) (a := 0) (b := (n : Int) - 1) (by omega))
        obtain ⟨ad, rfl, hc⟩ := q.nat (i + 1) (by omega)
        have hbd := hb.out (i + 1) (by rw [hl.out]; omega)
        rw [show ((i + 1 : Nat) : Int) = (i : Int) + 1 by omega] at hc hbd
        have e1 : ((i : Int) + 1).toNat = i + 1 := by omega
        rw [add_pos _ _ (by omega)] at hc
        obtain ⟨b1, b2⟩ := hbd
        have hR := hid (R0.out h1)
        have hC := hid C.out
        rw [if_pos h1] at hC
        clear C R0 R1 L0 L1
        obtain ⟨d, hd⟩ : ∃ d : Int, (if 0 < i then (1 : Int) else 0) = d := ⟨_, rfl⟩
        have hd2 : 0 ≤ d ∧ d ≤ 1 := by rw [← hd]; split <;> omega
        obtain ⟨hd3, hd4⟩ := hd2
        rw [hd] at hC ⊢
        clear hd
        go_wp2_with (go_at_call 25; refine (within _ _ _ _).mono ?_; rintro e w' ⟨rfl, rfl⟩; rw [hin.out])
        go_round
        case rel => exact ⟨2, _, _, by go_num, rfl, rfl, hid (.inr (.inr ⟨rfl, by rw [hR.out, show ((i + 1 : Nat) : Int) = (i : Int) + 1 by omega], hC.out.symm⟩))⟩
        case measure => simp [intOf]
      · have hin := hid (inR_no (n := (i : Int) + 1) (a := 0) (b := (n : Int) - 1) (by omega))
        have hR := hid (R1.out h1)
        have hC := hid C.out
        rw [if_neg h1] at hC
        clear C R0 R1 L0 L1
        obtain ⟨d, hd⟩ : ∃ d : Int, (if 0 < i then (1 : Int) else 0) = d := ⟨_, rfl⟩
        rw [hd] at hC ⊢
        clear hd
        go_wp2_with (go_at_call 25; refine (within _ _ _ _).mono ?_; rintro e w' ⟨rfl, rfl⟩; rw [hin.out])
        go_round
        case rel => exact ⟨2, _, _, by go_num, rfl, rfl, hid (.inr (.inr ⟨rfl, by rw [hR.out]; omega, by rw [hC.out]; omega⟩))⟩
        case measure => simp [intOf]
    · go_wp2
      go_ret2
      exact ⟨rfl, b0⟩
set_option maxHeartbeats 2000000 in
theorem l20Near (A : Option Addr) (n c : Nat) (u : List Int) (i : Nat) (w : World) (r : RI w A n u) (hi : i < n) (hb : Bd u 1000000000000000) (hn : n ≤ 1000000) :
    Calls Try.prog 57 #[.slice A n c, .int .i64 i] w fun e w' => e = .returned (.tuple #[.int .i64 (leftOf u i + rightOf u n i), .int .i64 (nearCnt n i)]) ∧ w = w' := by
  have hl := hid r.len
  by_cases h0 : 0 < i
  · obtain ⟨ad, rfl, hc⟩ := r.nat (i - 1) (by omega)
    have hbd := hb.out (i - 1) (by rw [hl.out]; omega)
    rw [leftOf, if_pos h0]
    rw [show ((i - 1 : Nat) : Int) = (i : Int) - 1 by omega] at hc hbd ⊢
    have e1 : ((i : Int) - 1).toNat = i - 1 := by omega
    obtain ⟨b1, b2⟩ := hbd
    by_cases h1 : i + 1 < n
    · obtain ⟨ad', hads, hc'⟩ := r.nat (i + 1) (by omega)
      obtain rfl : ad = ad' := by injection hads
      have hbd' := hb.out (i + 1) (by rw [hl.out]; omega)
      rw [rightOf, if_pos h1, nearCnt, if_pos h0, if_pos h1]
      rw [show ((i + 1 : Nat) : Int) = (i : Int) + 1 by omega] at hc' hbd' ⊢
      rw [add_pos _ _ (by omega)] at hc'
      have e2 : ((i : Int) + 1).toNat = i + 1 := by omega
      obtain ⟨b3, b4⟩ := hbd'
      clear hads
      go_enter Try.func57, Try.ntmps57
      go_wp2
      go_ret2
      exact ⟨rfl, rfl⟩
    · rw [rightOf, if_neg h1, nearCnt, if_pos h0, if_neg h1, Int.add_zero]
      go_enter Try.func57, Try.ntmps57
      go_wp2
      go_ret2
      exact ⟨rfl, rfl⟩
  · rw [leftOf, if_neg h0, Int.zero_add]
    by_cases h1 : i + 1 < n
    · obtain ⟨ad', rfl, hc'⟩ := r.nat (i + 1) (by omega)
      have hbd' := hb.out (i + 1) (by rw [hl.out]; omega)
      rw [rightOf, if_pos h1, nearCnt, if_neg h0, if_pos h1]
      rw [show ((i + 1 : Nat) : Int) = (i : Int) + 1 by omega] at hc' hbd' ⊢
      rw [add_pos _ _ (by omega)] at hc'
      have e2 : ((i : Int) + 1).toNat = i + 1 := by omega
      obtain ⟨b3, b4⟩ := hbd'
      go_enter Try.func57, Try.ntmps57
      go_wp2
      go_ret2
      exact ⟨rfl, rfl⟩
    · rw [rightOf, if_neg h1, nearCnt, if_neg h0, if_neg h1]
      go_enter Try.func57, Try.ntmps57
      go_wp2
      go_ret2
      exact ⟨rfl, rfl⟩
end Go.Proofs.Ytpnciejalcdgeaa.U
