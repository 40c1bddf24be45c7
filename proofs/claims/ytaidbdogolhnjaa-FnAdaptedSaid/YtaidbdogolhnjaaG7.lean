
/- A cursor over drawn bytes: it may be read for ever, and gives bytes. -/
import Derived.Test.YtaidbdogolhnjaaAp
set_option linter.unusedVariables false
set_option linter.unusedSimpArgs false
namespace Go.Proofs.Ytaidbdogolhnjaa.U
open Go.RowKit Go.Lib Go.Proofs.YtaidbdogolhnjaaW.PrintWords

/-- The cursor in block g: it lies above all that was there in w0, its bytes were there, and nothing of what was there has turned. -/
structure Cur (w0 w : World) (g : Nat) : Prop where
  lo : w0.heap.size ≤ g
  below : Below w0.heap.size w0 w
  cells : ∃ (A : Option Addr) (n c : Nat) (bytes : List Int) (i : Nat) (h : Int), w.heap[g]? = some (.cells #[.slice A n c, .int .i64 i, .int .i64 h] 71 (0, 0)) ∧ i ≤ n ∧ n ≤ 1048576 ∧ ReadsInt w0 .u8 A n bytes ∧ (∀ x ∈ bytes, 0 ≤ x ∧ x ≤ 255)
theorem and255 (x : Int) : 0 ≤ bits .and .i64 x 255 ∧ bits .and .i64 x 255 ≤ 255 := by
  have e : (BitVec.ofInt 64 x &&& BitVec.ofInt 64 255).toNat ≤ 255 := by
    rw [BitVec.toNat_and]
    exact Nat.le_trans Nat.and_le_right (by decide)
  have h : bits .and .i64 x 255 = IntKind.i64.wrap ((BitVec.ofInt 64 x &&& BitVec.ofInt 64 255).toNat : Int) := rfl
  rw [h, IntKind.wrap_i64]; omega
theorem u8_at {l : List Int} (h : ∀ x ∈ l, 0 ≤ x ∧ x ≤ 255) (i : Nat) (hi : i < l.length) : 0 ≤ rd l (i : Int) ∧ rd l (i : Int) ≤ 255 := by
  rw [rd_nat, List.getD_eq_getElem?_getD, List.getElem?_eq_getElem hi]
  exact h _ (List.getElem_mem hi)
set_option maxHeartbeats 2000000 in
theorem l01Byte (w0 : World) (g : Nat) (w : World) (h : Cur w0 w g) :
    Calls Try.prog 52 #[.pointer (some ⟨g, 0, none⟩)] w fun e w' => (∃ x : Int, e = .returned (.int .i64 x) ∧ 0 ≤ x ∧ x ≤ 255) ∧ Cur w0 w' g ∧ w.grownBy w' (some g) := by
  obtain ⟨lo, hb, A, n, c, bytes, i, hh, hblk, hi1, hn, hr, hby⟩ := h
  have c0 := blk_cell hblk 0
  have c1 := blk_cell hblk 1
  have c2 := blk_cell hblk 2
  have f0 := blk_frozen hblk 0
  have f1 := blk_frozen hblk 1
  have f2 := blk_frozen hblk 2
  simp at c0 c1 c2
  go_enter Try.func52, Try.ntmps52
  go_wp2
  generalize wrap64 (wrap64 (hh * 6364136223846793005) + 1442695040888963407) = h1 at *
  have hblk1 := blk_set hblk 2 (.int .i64 h1)
  have hg1 := grown_set (grown_refl w (some g)) 2 (.int .i64 h1)
  have hb1 := hb.setCell (p := ⟨g, 2, none⟩) lo (.int .i64 h1)
  generalize w.setCell ⟨g, 2, none⟩ (.int .i64 h1) = W1 at *
  simp at hblk1
  clear c0 c1 c2 f0 f1 f2 hblk
  have c0 := blk_cell hblk1 0
  have c1 := blk_cell hblk1 1
  have c2 := blk_cell hblk1 2
  have f1 : W1.frozen? ⟨g, 1, none⟩ = false := blk_frozen hblk1 1
  simp at c0 c1 c2
  by_cases hlt : i < n
  · obtain ⟨ad, rfl, hcb⟩ := ReadsInt.nat hr i hlt
    have hcb1 := pw_cell_below hb1 hcb
    have hx := u8_at hby i (by rw [hr.1]; exact hlt)
    have i1 : (0 : Int) ≤ (i : Int) := by omega
    have i2 : (i : Int) < (n : Int) := by omega
    obtain ⟨x1, x2⟩ := hx
    generalize rd bytes (i : Int) = y at *
    clear hcb
    go_quiet (fail)
    go_wp2
    go_quiet (fail)
    go_wp2
    go_quiet (fail)
    go_wp2
    have hd := fun M => blk_set (blk_drewN hblk1 M) 1 (.int .i64 ((i : Int) + 1))
    simp at hd
    go_ret
    exact ⟨⟨_, rfl, and255 _⟩, ⟨lo, (pw_below_drewN hb1 _).setCell (p := ⟨g, 1, none⟩) lo _, some ad, n, c, bytes, i + 1, h1, by rw [hd]; push_cast; rfl, by omega, hn, hr, hby⟩, grown_set (grown_drawn hg1 ⟨⟨_, rfl⟩⟩) 1 _⟩
  · have t0 : decide ((i : Int) < (n : Int)) = false := decide_eq_false (by omega)
    go_quiet (fail)
    go_wp2
    go_quiet (fail)
    go_wp2
    go_ret
    exact ⟨⟨_, rfl, and255 _⟩, ⟨lo, pw_below_drewN (pw_below_drewN hb1 _) _, A, n, c, bytes, i, h1, hblk1, hi1, hn, hr, hby⟩, grown_drawn (grown_drawn hg1 ⟨⟨_, rfl⟩⟩) ⟨⟨_, rfl⟩⟩⟩
end Go.Proofs.Ytaidbdogolhnjaa.U
set_option linter.unusedVariables false
set_option linter.unusedSimpArgs false
namespace Go.Proofs.Ytaidbdogolhnjaa.U
open Go.RowKit Go.Lib Go.Proofs.YtaidbdogolhnjaaW.PrintWords

set_option maxHeartbeats 2000000 in
theorem l01Below (w0 : World) (g : Nat) (n : Int) (w : World) (h : Cur w0 w g) :
    Calls Try.prog 26 #[.pointer (some ⟨g, 0, none⟩), .int .i64 n] w fun e w' => (∃ x : Int, e = .returned (.int .i64 x) ∧ 0 ≤ x ∧ (0 < n → x < n)) ∧ Cur w0 w' g ∧ w.grownBy w' (some g) := by
  by_cases h0 : n ≤ 0
  · go_enter Try.func26, Try.ntmps26
    go_wp2
    go_ret
    exact ⟨⟨_, rfl, by omega, by omega⟩, h, grown_refl _ _⟩
  by_cases h1 : n ≤ 256
  · have t1 : decide (n ≤ 0) = false := decide_eq_false h0
    have t2 : decide (n ≤ 256) = true := decide_eq_true h1
    go_enter Try.func26, Try.ntmps26
    go_wp2_with fail
    refine (l01Byte w0 g _ h).mono ?_
    rintro e w1 ⟨⟨x, rfl, x1, x2⟩, hC, hG⟩
    go_wp2
    go_ret
    exact ⟨⟨_, rfl, Int.emod_nonneg _ (by omega), fun hp => Int.emod_lt_of_pos _ hp⟩, hC, hG⟩
  · have t1 : decide (n ≤ 0) = false := decide_eq_false h0
    have t2 : decide (n ≤ 256) = false := decide_eq_false h1
    go_enter Try.func26, Try.ntmps26
    go_wp2_with fail
    refine (l01Byte w0 g _ h).mono ?_
    rintro e w1 ⟨⟨x, rfl, x1, x2⟩, hC, hG⟩
    go_wp2_with fail
    refine (l01Byte w0 g _ hC).mono ?_
    rintro e w2 ⟨⟨y, rfl, y1, y2⟩, hC2, hG2⟩
    go_wp2_with fail
    refine (l01Byte w0 g _ hC2).mono ?_
    rintro e w3 ⟨⟨z, rfl, z1, z2⟩, hC3, hG3⟩
    go_wp2_with fail
    refine (l01Byte w0 g _ hC3).mono ?_
    rintro e w4 ⟨⟨u, rfl, u1, u2⟩, hC4, hG4⟩
    go_wp2
    go_ret
    refine ⟨⟨_, rfl, Int.emod_nonneg _ (by omega), fun hp => Int.emod_lt_of_pos _ hp⟩, hC4, ?_⟩
    exact ((hG.trans hG2).trans hG3).trans hG4
end Go.Proofs.Ytaidbdogolhnjaa.U
set_option linter.unusedVariables false
set_option linter.unusedSimpArgs false
namespace Go.Proofs.Ytaidbdogolhnjaa.U
open Go.RowKit Go.Lib Go.Proofs.YtaidbdogolhnjaaW.PrintWords

theorem Cur.fresh {w wr : World} (hD : Drawn0 w wr) {A : Option Addr} {n c : Nat} {bytes : List Int} (h : Int) (r : ReadsInt w .u8 A n bytes) (hby : ∀ x ∈ bytes, 0 ≤ x ∧ x ≤ 255) (hn : n ≤ 1048576) :
    Cur w (wr.alloc (.cells #[.slice A n c, .int .i64 0, .int .i64 h] 71)) wr.heap.size :=
  ⟨(Bw.drawn hD).size, below_alloc hD.below _, A, n, c, bytes, 0, h, blk_new _ _, by omega, hn, r, hby⟩
set_option maxHeartbeats 4000000 in
theorem l01New (A : Option Addr) (n c : Nat) (bytes : List Int) (w : World) (r : ReadsInt w .u8 A n bytes) (hby : ∀ x ∈ bytes, 0 ≤ x ∧ x ≤ 255) (hn : n ≤ 1048576) :
    Calls Try.prog 25 #[.slice A n c] w fun e w' => ∃ g, e = .returned (.pointer (some ⟨g, 0, none⟩)) ∧ Cur w w' g := by
  have hlen := r.1
  have HB := hid hby
  have HL := hid hlen
  clear hby hlen
  have i1 : wrap64 (98231 + (n : Int)) = 98231 + (n : Int) := w64 (by omega) (by omega)
  go_enter Try.func25, Try.ntmps25
  go_wp2
  go_loopw [3, 4] (fun v3 v4 wr => ∃ (k : Nat) (h : Int), k ≤ n ∧ v3 = .int .i64 h ∧ v4 = .int .i64 k ∧ Hid (Drawn0 w wr)) (fun _ v4 _ => n - (intOf v4).toNat)
  case atStart => exact ⟨0, _, by omega, rfl, rfl, hid ⟨⟨0, rfl⟩⟩⟩
  case round =>
    obtain ⟨k, h, hk, rfl, rfl, hD⟩ := hrel
    by_cases hkn : k < n
    · have t1 : decide ((k : Int) < (n : Int)) = true := decide_eq_true (by omega)
      obtain ⟨ad, rfl, hc0⟩ := ReadsInt.nat (ReadsInt.drawn r hD.out) k hkn
      obtain ⟨y1, y2⟩ := u8_at HB.out k (by rw [HL.out]; exact hkn)
      generalize rd bytes (k : Int) = y at *
      by_cases h4 : k < 4000
      · have t2 : decide ((k : Int) < 4000) = true := decide_eq_true (by omega)
        go_wp2
        go_roundw
        case rel => exact ⟨k + 1, _, by omega, rfl, by go_num, hD⟩
        case measure => simp [intOf]; omega
      · have t2 : decide ((k : Int) < 4000) = false := decide_eq_false (by omega)
        go_wp2
        go_ret
        exact ⟨_, rfl, Cur.fresh hD.out h r HB.out hn⟩
    · have t1 : decide ((k : Int) < (n : Int)) = false := decide_eq_false (by omega)
      go_wp2
      go_ret
      exact ⟨_, rfl, Cur.fresh hD.out h r HB.out hn⟩
theorem grown_then {a b c : World} {row row2 : Option Nat} (h : a.grownBy b row) (k : b.grownBy c row2) (hr : ∀ j, row2 = some j → a.heap.size ≤ j) : a.grownBy c row :=
  ⟨k.os.trans h.os, k.tape.trans h.tape, k.output.trans h.output, Nat.le_trans h.size k.size, fun i hi hne => (k.block i (Nat.lt_of_lt_of_le hi h.size) (fun e => by have := hr i e.symm; omega)).trans (h.block i hi hne)⟩
theorem Cur.lt {w0 w : World} {g : Nat} (h : Cur w0 w g) : g < w.heap.size := by
  obtain ⟨A, n, c, bytes, i, hh, hblk, _⟩ := h.cells
  exact blk_lt hblk
theorem Cur.next {w0 w w' : World} {g : Nat} {row : Option Nat} (h : Cur w0 w g) (k : w.grownBy w' row) (hr : ∀ j, row = some j → g < j) : Cur w0 w' g := by
  have hg := h.lt
  refine ⟨h.lo, h.below.grown k h.below.size (fun j e => Nat.le_of_lt (Nat.lt_of_le_of_lt h.lo (hr j e))), ?_⟩
  obtain ⟨A, n, c, bytes, i, hh, hblk, rest⟩ := h.cells
  exact ⟨A, n, c, bytes, i, hh, (k.block g hg (fun e => by have := hr g e.symm; omega)).trans hblk, rest⟩
theorem OI.cur {w w' : World} {base n g : Nat} {v : Value} {l : List Int} (h : OI w base v n l) (hg : w.grownBy w' (some g)) (hb : g < base) : OI w' base v n l :=
  ⟨own_other h.out hg (.inr fun e => by have := own_base h.out g e; omega)⟩
theorem own_least {w : World} {base n : Nat} {v : Value} {l : List Int} (h : OI w base v n l) : ∀ j, v.ownBlock = some j → base ≤ j := fun j e => own_base h.out j e
theorem Cur.at_lt {w0 w : World} {g : Nat} (h : Cur w0 w g) : g < w.heap.size := by
  obtain ⟨A, n, c, bytes, i, hh, hblk, _⟩ := h.cells
  exact blk_lt hblk
theorem Cur.pass {w0 w w' : World} {g : Nat} (h : Cur w0 w g) (hB : Below w0.heap.size w0 w') (hb : w'.heap[g]? = w.heap[g]?) : Cur w0 w' g := by
  obtain ⟨A, n, c, bytes, i, hh, hblk, rest⟩ := h.cells
  exact ⟨h.lo, hB, A, n, c, bytes, i, hh, hb.trans hblk, rest⟩
theorem Cur.bw {w0 w w' : World} {g : Nat} (h : Cur w0 w g) (b : Bw w w') : Cur w0 w' g := h.pass (below_then h.below h.below.size b.out) (b.out.block g h.at_lt)
theorem Cur.grow {w0 w w' : World} {g : Nat} {row : Option Nat} (h : Cur w0 w g) (k : w.grownBy w' row) (hr : ∀ j, row = some j → g < j) : Cur w0 w' g :=
  h.pass (h.below.grown k h.below.size (fun j e => Nat.le_of_lt (Nat.lt_of_le_of_lt h.lo (hr j e)))) (k.block g h.at_lt (fun e => by have := hr g e.symm; omega))
theorem Cur.set {w0 w : World} {g M : Nat} (h : Cur w0 w g) (hM : w0.heap.size ≤ M) (hne : M ≠ g) (i : Nat) (u : Value) : Cur w0 (w.setCell ⟨M, i, none⟩ u) g :=
  h.pass (h.below.setCell (p := ⟨M, i, none⟩) hM u) (Below.heap_setCell w ⟨M, i, none⟩ u g (fun e => hne (by simpa using e.symm)))
theorem Cur.bw0 {w0 w : World} {g : Nat} (h : Cur w0 w g) : Bw w0 w := ⟨h.below⟩
theorem l01Once (w0 : World) (g : Nat) (n : Int) (w : World) (h : Cur w0 w g) :
    Calls Try.prog 51 #[.pointer (some ⟨g, 0, none⟩), .int .i64 n] w fun e w' => (∃ b : Bool, e = .returned (.bool b)) ∧ Cur w0 w' g ∧ w.grownBy w' (some g) := by
  go_enter Try.func51, Try.ntmps51
  go_wp2_with fail
  refine (l01Below w0 g n _ h).mono ?_
  rintro e w1 ⟨⟨x, rfl, x1, x2⟩, hC, hG⟩
  go_wp2
  go_ret
  exact ⟨⟨_, rfl⟩, hC, hG⟩
end Go.Proofs.Ytaidbdogolhnjaa.U
