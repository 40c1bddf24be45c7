
/- A new cursor; one of several numbers; a drawn system. -/
import Derived.Test.YtpnciejalcdgeaaDl
import Derived.OwnWalk
set_option linter.unusedVariables false
set_option linter.unusedSimpArgs false
namespace Go.Proofs.Ytpnciejalcdgeaa.U
open Go.RowKit Go.Lib Go.Proofs.YtpnciejalcdgeaaW.PrintWords

theorem Cur.fresh {w wr : World} (hD : Drawn0 w wr) {A : Option Addr} {n c : Nat} {bytes : List Int} (h : Int) (r : ReadsInt w .u8 A n bytes) (hby : ∀ x ∈ bytes, 0 ≤ x ∧ x ≤ 255) (hn : n ≤ 1048576) :
    Cur w (wr.alloc (.cells #[.slice A n c, .int .i64 0, .int .i64 h] 50)) wr.heap.size :=
  ⟨(Bw.drawn hD).size, below_alloc hD.below _, A, n, c, bytes, 0, h, blk_new _ _, by omega, hn, r, hby⟩
set_option maxHeartbeats 4000000 in
theorem l01New (A : Option Addr) (n c : Nat) (bytes : List Int) (w : World) (r : ReadsInt w .u8 A n bytes) (hby : ∀ x ∈ bytes, 0 ≤ x ∧ x ≤ 255) (hn : n ≤ 1048576) :
    Calls Try.prog 24 #[.slice A n c] w fun e w' => ∃ g, e = .returned (.pointer (some ⟨g, 0, none⟩)) ∧ Cur w w' g := by
  have hlen := r.1
  have HB := hid hby
  have HL := hid hlen
  clear hby hlen
  have i1 : wrap64 (98231 + (n : Int)) = 98231 + (n : Int) := w64 (by omega) (by omega)
  go_enter Try.func24, Try.ntmps24
  go_wp2
  go_loopw [3, 4] (fun v3 v4 wr => ∃ (k : Nat) (h : Int), k ≤ n ∧ v3 = .int .i64 h ∧ v4 = .int .i64 k ∧ Hid (Drawn0 w wr)) (fun _ v4 _ => n - (intOf v4).toNat)
  case atStart => exact ⟨0, _, by omega, rfl, rfl, hid ⟨⟨0, rfl⟩⟩⟩
  case round =>
    obtain ⟨k, h, hk, rfl, rfl, hD⟩ := hrel
    by_cases hkn : k < n
    · have t1 : decide ((k : Int) < (n : Int)) = true := decide_eq_true (by omega)
      obtain ⟨ad, rfl, hc0⟩ := ReadsInt.nat (ReadsInt.drawn r hD.out) k hkn
      obtain ⟨y1, y2⟩ := u8_at HB.out k (by rw [HL.out]; exact hkn)
      generalize rd bytes (k : Int) = y at *
      by_cases h4 : k < 4000
      · have t2 : decide ((k : Int) < 4000) = true := decide_eq_true (by omega)
        go_wp2
        go_roundw
        case rel => exact ⟨k + 1, _, by omega, rfl, by go_num, hD⟩
        case measure => simp [intOf]; omega
      · have t2 : decide ((k : Int) < 4000) = false := decide_eq_false (by omega)
        go_wp2
        go_ret
        exact ⟨_, rfl, Cur.fresh hD.out h r HB.out hn⟩
    · have t1 : decide ((k : Int) < (n : Int)) = false := decide_eq_false (by omega)
      go_wp2
      go_ret
      exact ⟨_, rfl, Cur.fresh hD.out h r HB.out hn⟩
set_option maxHeartbeats 2000000 in
theorem l01PickInt (w0 : World) (g : Nat) (B : Option Addr) (m d : Nat) (ls : List Int) (w : World) (h : Cur w0 w g) (hm : 0 < m) (hls : ls.length = m) (hm2 : m ≤ 1000) (hq : ∀ w', w.grownBy w' (some g) → RI w' B m ls) :
    Calls Try.prog 46 #[.pointer (some ⟨g, 0, none⟩), .slice B m d] w fun e w' => (∃ x : Int, e = .returned (.int .i64 x) ∧ x ∈ ls) ∧ Cur w0 w' g ∧ w.grownBy w' (some g) := by
  have HQ := hid hq
  clear hq
  go_enter Try.func46, Try.ntmps46
  go_wp2_with fail
  refine (l01Below w0 g _ _ h).mono ?_
  rintro e w2 ⟨⟨x, rfl, x1, x2⟩, hC2, hG2⟩
  have x2' := x2 (by omega)
  clear x2
  obtain ⟨j, rfl⟩ := Int.eq_ofNat_of_zero_le x1
  obtain ⟨ad, rfl, hc0⟩ := (HQ.out w2 hG2).nat j (by omega)
  have hmem : Hid (rd ls (j : Int) ∈ ls) := hid (by rw [rd_nat, List.getD_eq_getElem?_getD, List.getElem?_eq_getElem (by omega)]; exact List.getElem_mem _)
  generalize rd ls (j : Int) = y at *
  go_wp2
  go_ret
  exact ⟨⟨_, rfl, hmem.out⟩, hC2, hG2⟩
theorem l20ListI (w0 : World) (g : Nat) (n : Int) (m : Nat) (w : World) (e : n = m) (h : Cur w0 w g) (hn : m ≤ 1000) :
    Calls Try.prog 45 #[.pointer (some ⟨g, 0, none⟩), .int .i64 n] w fun e w' => ∃ v l, e = .returned v ∧ OI w' w.heap.size v m l ∧ Bd l 15000 ∧ Cur w0 w' g ∧ w.grownBy w' (some g) := by
  subst e
  exact l20List w0 g m w h hn
set_option maxHeartbeats 4000000 in
theorem l20Case (w0 : World) (g : Nat) (w : World) (h : Cur w0 w g) :
    Calls Try.prog 23 #[.pointer (some ⟨g, 0, none⟩)] w fun e w' => ∃ A B c d n u f k, e = .returned (.tuple #[.slice A n c, .slice B n d, .int .i64 k]) ∧ OI w' w.heap.size (.slice A n c) n u ∧ OI w' w.heap.size (.slice B n d) n f ∧ Apart (.slice A n c) (.slice B n d) ∧ Bd u 15000 ∧ Bd f 15000 ∧ (1 ≤ n ∧ n ≤ 16) ∧ (0 ≤ k ∧ k ≤ 1000) ∧ Cur w0 w' g ∧ w.grownBy w' (some g) := by
  have hlt := h.lt
  go_enter Try.func23, Try.ntmps23
  go_wp2_with fail
  refine (l01Below w0 g _ _ h).mono ?_
  rintro e w1 ⟨⟨x, rfl, x1, x2⟩, hC, hG⟩
  have x2' := x2 (by omega)
  clear x2
  obtain ⟨j, rfl⟩ := Int.eq_ofNat_of_zero_le x1
  obtain ⟨m, hm1, hm2, hm3⟩ : ∃ m : Nat, 1 ≤ m ∧ m ≤ 16 ∧ Hid (1 + (j : Int) = (m : Int)) := ⟨j + 1, by omega, by omega, hid (by push_cast; omega)⟩
  go_wp2_with fail
  refine (l20ListI w0 g _ m _ hm3.out hC (by omega)).mono ?_
  rintro e w2 ⟨v, u, rfl, hu, hub, hC2, hG2⟩
  obtain ⟨A, c, rfl, _⟩ := hu.reads
  go_wp2_with fail
  refine (l20ListI w0 g _ m _ hm3.out hC2 (by omega)).mono ?_
  rintro e w3 ⟨v, f, rfl, hf, hfb, hC3, hG3⟩
  have hu3 := hu.cur hG3 (Nat.lt_of_lt_of_le hlt hG.size)
  have ha := OI.apart hu hf (Nat.le_refl _)
  obtain ⟨B, d, rfl, _⟩ := hf.reads
  go_wp2_with fail
  have hK : OI (w3.alloc (.cells #[.int .i64 0, .int .i64 1, .int .i64 4, .int .i64 50, .int .i64 1000] 3)) w3.heap.size (.slice (some ⟨w3.heap.size, 0, none⟩) 5 5) 5 [0, 1, 4, 50, 1000] := ⟨own_lit w3 w3.heap.size 3 .i64 [0, 1, 4, 50, 1000] (Nat.le_refl _) (by simp)⟩
  have g4 : w3.grownBy (w3.alloc (.cells #[.int .i64 0, .int .i64 1, .int .i64 4, .int .i64 50, .int .i64 1000] 3)) none := World.grownBy_alloc _ _ none
  generalize w3.alloc (.cells #[.int .i64 0, .int .i64 1, .int .i64 4, .int .i64 50, .int .i64 1000] 3) = w4 at *
  have hl3 := hC3.lt
  refine (l01PickInt w0 g _ 5 5 [0, 1, 4, 50, 1000] _ (hC3.next g4 (fun j e => by cases e)) (by omega) rfl (by omega) (fun w' hg => (hK.cur hg hl3).ri)).mono ?_
  rintro e w5 ⟨⟨k, rfl, hk⟩, hC5, hG5⟩
  have hk' : 0 ≤ k ∧ k ≤ 1000 := by
    simp at hk
    omega
  go_wp2
  go_ret3
  have g34 : w3.grownBy w5 (some g) := (grown_then (grown_refl w3 (some g)) g4 (fun j e => by cases e)).trans hG5
  exact ⟨A, B, c, d, m, u, f, k, rfl, ((hu3.cur g34 (Nat.lt_of_lt_of_le hlt hG.size)).base hG.size), ((hf.cur g34 (Nat.lt_of_lt_of_le hlt (hG.trans hG2).size)).base (hG.trans hG2).size), ha, hub, hfb, ⟨hm1, hm2⟩, hk', hC5, ((hG.trans hG2).trans hG3).trans g34⟩
set_option maxHeartbeats 4000000 in
theorem DrawSystem (A0 : Option Addr) (n0 c0 : Nat) (bytes : List Int) (w : World) (r : ReadsInt w .u8 A0 n0 bytes) (hby : ∀ x ∈ bytes, 0 ≤ x ∧ x ≤ 255) (hn : n0 ≤ 1048576) :
    Calls Try.prog 8 #[.slice A0 n0 c0] w fun e w' => ∃ A B c d n u f k, e = .returned (.tuple #[.slice A n c, .slice B n d, .int .i64 k]) ∧ OI w' w.heap.size (.slice A n c) n u ∧ OI w' w.heap.size (.slice B n d) n f ∧ Apart (.slice A n c) (.slice B n d) ∧ Bd u 15000 ∧ Bd f 15000 ∧ (1 ≤ n ∧ n ≤ 16) ∧ (0 ≤ k ∧ k ≤ 1000) ∧ Bw w w' := by
  have HB := hid hby
  clear hby
  go_enter Try.func8, Try.ntmps8
  go_wp2_with fail
  refine (l01New A0 n0 c0 bytes _ r HB.out hn).mono ?_
  rintro e w1 ⟨g, rfl, hC⟩
  go_wp2_with fail
  refine (l20Case w g _ hC).mono ?_
  rintro e w2 ⟨A, B, c, d, n, u, f, k, rfl, hu, hf, ha, hub, hfb, hn1, hk1, hC2, hG⟩
  go_wp2
  go_ret3
  exact ⟨A, B, c, d, n, u, f, k, rfl, hu.base hC.below.size, hf.base hC.below.size, ha, hub, hfb, hn1, hk1, ⟨hC2.below⟩⟩
end Go.Proofs.Ytpnciejalcdgeaa.U
