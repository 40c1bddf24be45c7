
/- FewestParts of the program and of the reference, and the cuts of parts that take as much as possible. -/
import Derived.Test.YtaemkneppphkmaaWt
import Derived.Test.YtaemkneppphkmaaSm
import Derived.Test.YtaemkneppphkmaaAp
set_option linter.unusedVariables false
set_option linter.unusedSimpArgs false
namespace Go.Proofs.Ytaemkneppphkmaa.U
open Go.RowKit Go.Lib Go.Proofs.YtaemkneppphkmaaW.PrintWords

attribute [local go_sem] go_max2 go_min2
/-- the cuts so far, and the sum of the part so far, when k weights have been taken -/
def cutTo (l : List Int) (most : Int) : Nat → List Int × Int
  | 0 => ([0], 0)
  | k + 1 => if most < (cutTo l most k).2 + rd l (k : Int) then ((cutTo l most k).1 ++ [(k : Int)], rd l (k : Int)) else ((cutTo l most k).1, (cutTo l most k).2 + rd l (k : Int))
def cutsL (l : List Int) (most : Int) : List Int := (cutTo l most l.length).1 ++ [(l.length : Int)]
theorem cutTo_over {l : List Int} {most : Int} {k : Nat} (h : most < (cutTo l most k).2 + rd l (k : Int)) : cutTo l most (k + 1) = ((cutTo l most k).1 ++ [(k : Int)], rd l (k : Int)) := by rw [cutTo, if_pos h]
theorem cutTo_fits {l : List Int} {most : Int} {k : Nat} (h : ¬ most < (cutTo l most k).2 + rd l (k : Int)) : cutTo l most (k + 1) = ((cutTo l most k).1, (cutTo l most k).2 + rd l (k : Int)) := by rw [cutTo, if_neg h]
theorem cutTo_len (l : List Int) (most : Int) : ∀ k, 1 ≤ (cutTo l most k).1.length ∧ (cutTo l most k).1.length ≤ k + 1
  | 0 => by simp [cutTo]
  | k + 1 => by
    have := cutTo_len l most k
    unfold cutTo
    split <;> simp <;> omega
theorem wOk_at {l : List Int} (h : wOk l = true) (k : Nat) (hk : k < l.length) : 0 ≤ rd l (k : Int) ∧ rd l (k : Int) ≤ 1000000 := by
  rw [rd_nat, List.getD_eq_getElem?_getD, List.getElem?_eq_getElem hk]
  exact (wOk_iff.1 h).2 _ (List.getElem_mem hk)
theorem cutTo_sum {l : List Int} {most : Int} (h : wOk l = true) : ∀ k, k ≤ l.length → 0 ≤ (cutTo l most k).2 ∧ (cutTo l most k).2 ≤ 1000000 * k
  | 0, _ => by simp [cutTo]
  | k + 1, hk => by
    have h1 := cutTo_sum (most := most) h k (by omega)
    have h2 := wOk_at h k (by omega)
    unfold cutTo
    split <;> simp <;> omega
/-- all weights fit into a part -/
def fits (l : List Int) (most : Int) : Bool := l.all (fun x => decide (x ≤ most))
theorem fits_yes (l : List Int) (most : Int) (n : Nat) (hn : l.length = n) (h : ∀ j, j < n → rd l (j : Int) ≤ most) : fits l most = true := all_at l _ n hn (fun j hj => decide_eq_true (h j hj))
theorem fits_no (l : List Int) (most : Int) (k : Nat) (hk : k < l.length) (h : most < rd l (k : Int)) : fits l most = false := not_all_at l (fun x => decide (x ≤ most)) k hk (decide_eq_false (by omega))
theorem fits_at {l : List Int} {most : Int} (h : fits l most = true) (k : Nat) (hk : k < l.length) : rd l (k : Int) ≤ most := by
  rcases Int.lt_or_le most (rd l (k : Int)) with h1 | h1
  · rw [fits_no l most k hk h1] at h; cases h
  · exact h1
def fewest (l : List Int) (most : Int) : Int := if wOk l = true then (if l.length = 0 then 0 else if fits l most = true then ((cutsL l most).length : Int) - 1 else -1) else -1
set_option maxRecDepth 100000 in
set_option maxHeartbeats 4000000 in
theorem impl_fill (A : Option Addr) (n c : Nat) (l : List Int) (most : Int) (w : World) (r : RI w A n l) (hw : wOk l = true) (hmost : -9223372036854775808 ≤ most ∧ most ≤ 9223372036854775807) :
    Calls Try.prog 34 #[.slice A n c, .int .i64 most] w fun e w' =>
      ((fits l most = true ∧ ∃ v, e = .returned (.tuple #[v, .bool true]) ∧ OI w' w.heap.size v (cutsL l most).length (cutsL l most)) ∨ (fits l most = false ∧ e = .returned (.tuple #[.slice none 0 0, .bool false]))) ∧ Bw w w' := by
  have hl := hid r.len
  have hlen : n ≤ 1000 := by have := (wOk_iff.1 hw).1; rw [hl.out] at this; exact this
  have HW := hid hw; clear hw
  have o0 : OI (w.alloc (.cells #[.int .i64 0] 3)) w.heap.size (.slice (some ⟨w.heap.size, 0, none⟩) 1 1) (cutTo l most 0).1.length (cutTo l most 0).1 := ⟨own_lit w w.heap.size 3 .i64 [0] (Nat.le_refl _) (by simp)⟩
  have b0 : Bw w (w.alloc (.cells #[.int .i64 0] 3)) := (Bw.refl w).alloc _
  obtain ⟨W0, hW0⟩ : ∃ W0 : World, W0 = w.alloc (.cells #[.int .i64 0] 3) := ⟨_, rfl⟩
  rw [← hW0] at o0 b0
  go_enter Try.func34, Try.ntmps34
  go_wp2
  rw [← hW0]
  clear hW0
  go_loopw [6, 7, 13] (fun v s i wr => ∃ k : Nat, k ≤ n ∧ i = .int .i64 k ∧ s = .int .i64 (cutTo l most k).2 ∧ OI wr w.heap.size v (cutTo l most k).1.length (cutTo l most k).1 ∧ Bw w wr ∧ Hid (∀ j, j < k → rd l (j : Int) ≤ most)) (fun _ _ i _ => n - (intOf i).toNat)
  case atStart => exact ⟨0, by omega, rfl, rfl, o0, b0, hid (fun j hj => by omega)⟩
  case round =>
    obtain ⟨k, hk, rfl, rfl, hO, hB, hE⟩ := hrel
    have hs0 := cutTo_sum (most := most) HW.out k (by rw [hl.out]; exact hk)
    have hcl := cutTo_len l most k
    by_cases hlt : k < n
    · obtain ⟨ad, rfl, hc⟩ := (r.to hB).nat k hlt
      have hx := wOk_at HW.out k (by rw [hl.out]; exact hlt)
      by_cases hov : most < rd l (k : Int)
      · have hno := hid (fits_no l most k (by rw [hl.out]; exact hlt) hov)
        go_wp2
        go_ret2
        exact ⟨.inr ⟨hno.out, rfl⟩, hB⟩
      · have hE2 : Hid (∀ j, j < k + 1 → rd l (j : Int) ≤ most) := hid (fun j hj => by
          by_cases e : j = k
          · rw [e]; omega
          · exact hE.out j (by omega))
        by_cases hcut : most < (cutTo l most k).2 + rd l (k : Int)
        · have hnext := hid (cutTo_over hcut)
          generalize (cutTo l most k).2 = s at *
          generalize (cutTo l most k).1 = L at *
          generalize rd l (k : Int) = x at *
          obtain ⟨hs1, hs2⟩ := hs0
          obtain ⟨hx1, hx2⟩ := hx
          obtain ⟨hc1, hc2⟩ := hcl
          go_wp2_with (at_builtin; (refine print_append_num (w0 := w) w.heap.size rfl _ _ 28 3 .i64 8 rfl Try.underlying28 info_int (by omega) u6 L (k : Int) rfl rfl hO.out hB.out hB.size (by omega) ?_); intro v1 w2 hown1 hB1 hg1 _)
          go_roundw
          case rel => exact ⟨k + 1, by omega, by go_num, by rw [hnext.out], by rw [hnext.out]; exact OI.app hown1, ⟨hB1⟩, hE2⟩
          case measure => simp [intOf]; omega
        · have hnext := hid (cutTo_fits hcut)
          generalize (cutTo l most k).2 = s at *
          generalize (cutTo l most k).1 = L at *
          generalize rd l (k : Int) = x at *
          obtain ⟨hs1, hs2⟩ := hs0
          obtain ⟨hx1, hx2⟩ := hx
          go_wp2
          go_roundw
          case rel => exact ⟨k + 1, by omega, by go_num, by rw [hnext.out], by rw [hnext.out]; exact hO, hB, hE2⟩
          case measure => simp [intOf]; omega
    · obtain rfl : k = n := by omega
      have hyes := hid (fits_yes l most k hl.out hE.out)
      have hcs : Hid (cutsL l most = (cutTo l most k).1 ++ [(k : Int)]) := hid (by rw [cutsL, hl.out])
      generalize (cutTo l most k).1 = L at *
      obtain ⟨hc1, hc2⟩ := hcl
      go_wp2_with (at_builtin; refine print_append_num (w0 := w) w.heap.size rfl _ _ 28 3 .i64 8 rfl Try.underlying28 info_int (by omega) u6 L (k : Int) rfl rfl hO.out hB.out hB.size (by omega) ?_; intro v1 w2 hown1 hB1 hg1 _)
      go_ret2
      exact ⟨.inl ⟨hyes.out, _, rfl, by rw [hcs.out]; exact OI.app hown1⟩, ⟨hB1⟩⟩
set_option maxHeartbeats 4000000 in
theorem impl_FewestParts (A : Option Addr) (n c : Nat) (l : List Int) (most : Int) (w : World) (r : RI w A n l) (hmost : -9223372036854775808 ≤ most ∧ most ≤ 9223372036854775807) :
    Calls Try.prog 12 #[.slice A n c, .int .i64 most] w fun e w' => e = .returned (.int .i64 (fewest l most)) ∧ Bw w w' := by
  have hl := r.len
  cases hw : wOk l with
  | false =>
    rw [show fewest l most = -1 by simp [fewest, hw]]
    have HW := hid hw; clear hw hl hmost
    go_enter Try.func12, Try.ntmps12
    go_wp2_with (go_at_call 33; refine (impl_areWeights _ _ _ _ _ r).mono ?_; rintro e w1 ⟨rfl, d1⟩; rw [HW.out])
    go_ret
    exact ⟨rfl, Bw.drawn d1⟩
  | true =>
    have HW := hid hw
    have hF : fewest l most = (if n = 0 then 0 else if fits l most = true then ((cutsL l most).length : Int) - 1 else -1) := by simp [fewest, hw, hl]
    have HR := hid hF
    have hlen : n ≤ 1000 := by have := (wOk_iff.1 hw).1; omega
    have hcl : (cutsL l most).length ≤ 1002 := by have := (cutTo_len l most l.length).2; simp [cutsL]; omega
    have hn0 := hid (show n = 0 → fits l most = true from fun h => fits_yes l most n hl (fun j hj => by omega))
    generalize fewest l most = R at *
    clear hF hw hl
    go_enter Try.func12, Try.ntmps12
    go_wp2_with (go_at_call 33; refine (impl_areWeights _ _ _ _ _ r).mono ?_; rintro e w1 ⟨rfl, d1⟩; rw [HW.out])
    go_wp2_with fail
    refine (impl_fill A n c l most _ (r.dr d1) HW.out hmost).mono ?_
    have b1 := Bw.drawn d1
    clear hmost
    rintro e w2 ⟨(⟨hfit, v, rfl, o⟩ | ⟨hfit, rfl⟩), b2⟩
    · replace b1 := b1.trans b2
      clear b2 d1
      obtain ⟨A', c', rfl, _⟩ := o.reads
      by_cases h0 : n = 0
      · have HQ : Hid (R = 0) := hid (by rw [HR.out, if_pos h0])
        have t0 : ((n : Int) == 0) = true := beq_iff_eq.2 (by omega)
        clear h0
        have HFT := hid hfit; clear hfit
        go_wp2
        go_ret
        exact ⟨ret_int HQ.out.symm, b1⟩
      · have HQ : Hid (R = ((cutsL l most).length : Int) - 1) := hid (by rw [HR.out, if_neg h0, hfit, if_pos rfl])
        have t0 : ((n : Int) == 0) = false := beq_eq_false_iff_ne.2 (by omega)
        clear h0
        have HFT := hid hfit; clear hfit
        clear HR
        generalize (cutsL l most).length = L at *
        go_wp2
        go_ret
        exact ⟨ret_int HQ.out.symm, b1⟩
    · replace b1 := b1.trans b2
      clear b2 d1
      have h0 : n ≠ 0 := fun e => by have := hn0.out e; rw [this] at hfit; cases hfit
      have HQ : Hid (R = -1) := hid (by rw [HR.out, if_neg h0, hfit, if_neg (by decide)])
      have HFT := hid hfit; clear hfit h0
      go_wp2
      go_ret
      exact ⟨ret_int HQ.out.symm, b1⟩
/-- the greatest of the first k weights, and 0 -/
def topTo (l : List Int) : Nat → Int
  | 0 => 0
  | k + 1 => bigMax (topTo l k) (rd l (k : Int))
theorem topTo_ge (l : List Int) : ∀ (k j : Nat), j < k → rd l (j : Int) ≤ topTo l k
  | k + 1, j, h => by
    rw [topTo, bigMax_max]
    by_cases e : j = k
    · rw [e]; omega
    · have := topTo_ge l k j (by omega); omega
theorem topTo_or (l : List Int) : ∀ (k : Nat), topTo l k = 0 ∨ ∃ j, j < k ∧ topTo l k = rd l (j : Int)
  | 0 => .inl rfl
  | k + 1 => by
    rw [topTo, bigMax]
    split
    · exact .inr ⟨k, by omega, rfl⟩
    · rcases topTo_or l k with h | ⟨j, hj, h⟩
      · exact .inl h
      · exact .inr ⟨j, by omega, h⟩
theorem topTo_nn (l : List Int) : ∀ k, 0 ≤ topTo l k
  | 0 => by simp [topTo]
  | k + 1 => by have := topTo_nn l k; rw [topTo, bigMax_max]; omega
theorem top_fits (l : List Int) (most : Int) (n : Nat) (hl : l.length = n) (hw : wOk l = true) (h0 : n ≠ 0) : decide (most < topTo l n) = !fits l most := by
  by_cases h : most < topTo l n
  · rw [decide_eq_true h]
    rcases topTo_or l n with e | ⟨j, hj, e⟩
    · have := wOk_at hw 0 (by omega)
      rw [fits_no l most 0 (by omega) (by omega)]; rfl
    · rw [fits_no l most j (by omega) (by omega)]; rfl
  · rw [decide_eq_false h, fits_yes l most n hl (fun j hj => by have := topTo_ge l n j hj; omega)]; rfl
end Go.Proofs.Ytaemkneppphkmaa.U
