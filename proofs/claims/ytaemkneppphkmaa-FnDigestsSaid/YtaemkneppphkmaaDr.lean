
/- A cursor over drawn bytes: it may be read for ever, and gives bytes. -/
import Derived.Test.YtaemkneppphkmaaAp
set_option linter.unusedVariables false
set_option linter.unusedSimpArgs false
namespace Go.Proofs.Ytaemkneppphkmaa.U
open Go.RowKit Go.Lib Go.Proofs.YtaemkneppphkmaaW.PrintWords

/-- The cursor in block g: it lies above all that was there in w0, its bytes were there, and nothing of what was there has turned. -/
structure Cur (w0 w : World) (g : Nat) : Prop where
  lo : w0.heap.size ≤ g
  below : Below w0.heap.size w0 w
  cells : ∃ (A : Option Addr) (n c : Nat) (bytes : List Int) (i : Nat) (h : Int), w.heap[g]? = some (.cells #[.slice A n c, .int .i64 i, .int .i64 h] 87 (0, 0)) ∧ i ≤ n ∧ n ≤ 1048576 ∧ ReadsInt w0 .u8 A n bytes ∧ (∀ x ∈ bytes, 0 ≤ x ∧ x ≤ 255)
theorem and255 (x : Int) : 0 ≤ bits .and .i64 x 255 ∧ bits .and .i64 x 255 ≤ 255 := by
  have e : (BitVec.ofInt 64 x &&& BitVec.ofInt 64 255).toNat ≤ 255 := by
    rw [BitVec.toNat_and]
    exact Nat.le_trans Nat.and_le_right (by decide)
  have h : bits .and .i64 x 255 = IntKind.i64.wrap ((BitVec.ofInt 64 x &&& BitVec.ofInt 64 255).toNat : Int) := rfl
  rw [h, IntKind.wrap_i64]; omega
theorem u8_at {l : List Int} (h : ∀ x ∈ l, 0 ≤ x ∧ x ≤ 255) (i : Nat) (hi : i < l.length) : 0 ≤ rd l (i : Int) ∧ rd l (i : Int) ≤ 255 := by
  rw [rd_nat, List.getD_eq_getElem?_getD, List.getElem?_eq_getElem hi]
  exact h _ (List.getElem_mem hi)
set_option maxHeartbeats 2000000 in
theorem l01Byte (w0 : World) (g : Nat) (w : World) (h : Cur w0 w g) :
    Calls Try.prog 66 #[.pointer (some ⟨g, 0, none⟩)] w fun e w' => (∃ x : Int, e = .returned (.int .i64 x) ∧ 0 ≤ x ∧ x ≤ 255) ∧ Cur w0 w' g ∧ w.grownBy w' (some g) := by
  obtain ⟨lo, hb, A, n, c, bytes, i, hh, hblk, hi1, hn, hr, hby⟩ := h
  have c0 := blk_cell hblk 0
  have c1 := blk_cell hblk 1
  have c2 := blk_cell hblk 2
  have f0 := blk_frozen hblk 0
  have f1 := blk_frozen hblk 1
  have f2 := blk_frozen hblk 2
  simp at c0 c1 c2
  go_enter Try.func66, Try.ntmps66
  go_wp2
  generalize wrap64 (wrap64 (hh * 6364136223846793005) + 1442695040888963407) = h1 at *
  have hblk1 := blk_set hblk 2 (.int .i64 h1)
  have hg1 := grown_set (grown_refl w (some g)) 2 (.int .i64 h1)
  have hb1 := hb.setCell (p := ⟨g, 2, none⟩) lo (.int .i64 h1)
  generalize w.setCell ⟨g, 2, none⟩ (.int .i64 h1) = W1 at *
  simp at hblk1
  clear c0 c1 c2 f0 f1 f2 hblk
  have c0 := blk_cell hblk1 0
  have c1 := blk_cell hblk1 1
  have c2 := blk_cell hblk1 2
  have f1 : W1.frozen? ⟨g, 1, none⟩ = false := blk_frozen hblk1 1
  simp at c0 c1 c2
  by_cases hlt : i < n
  · obtain ⟨ad, rfl, hcb⟩ := ReadsInt.nat hr i hlt
    have hcb1 := pw_cell_below hb1 hcb
    have hx := u8_at hby i (by rw [hr.1]; exact hlt)
    have i1 : (0 : Int) ≤ (i : Int) := by omega
    have i2 : (i : Int) < (n : Int) := by omega
    obtain ⟨x1, x2⟩ := hx
    generalize rd bytes (i : Int) = y at *
    clear hcb
    go_quiet (fail)
    go_wp2
    go_quiet (fail)
    go_wp2
    go_quiet (fail)
    go_wp2
    have hd := fun M => blk_set (blk_drewN hblk1 M) 1 (.int .i64 ((i : Int) + 1))
    simp at hd
    go_ret
    exact ⟨⟨_, rfl, and255 _⟩, ⟨lo, (pw_below_drewN hb1 _).setCell (p := ⟨g, 1, none⟩) lo _, some ad, n, c, bytes, i + 1, h1, by rw [hd]; push_cast; rfl, by omega, hn, hr, hby⟩, grown_set (grown_drawn hg1 ⟨⟨_, rfl⟩⟩) 1 _⟩
  · have t0 : decide ((i : Int) < (n : Int)) = false := decide_eq_false (by omega)
    go_quiet (fail)
    go_wp2
    go_quiet (fail)
    go_wp2
    go_ret
    exact ⟨⟨_, rfl, and255 _⟩, ⟨lo, pw_below_drewN (pw_below_drewN hb1 _) _, A, n, c, bytes, i, h1, hblk1, hi1, hn, hr, hby⟩, grown_drawn (grown_drawn hg1 ⟨⟨_, rfl⟩⟩) ⟨⟨_, rfl⟩⟩⟩
end Go.Proofs.Ytaemkneppphkmaa.U
