
/- slices.Chunk of ints, by two: the iterator. -/
import Derived.RangeFuncNested
import Derived.RangeFuncBound
import Derived.RangeFuncCalls
import Derived.RangeFuncLeaves
import Derived.RangeFuncBox
import Derived.Shelf.Abstract
import Derived.Shelf.RegionOpen
import Derived.WalkKit
import Derived.OwnWalkIn
import Derived.TacticsInMore
import Derived.LoopNIn
import Derived.LoopIn
import Derived.Test.YtpnciejalcdgeaaSm
import Derived.Test.YtpnciejalcdgeaaDf
import Derived.Test.YtpnciejalcdgeaaAp
set_option linter.unusedVariables false
set_option linter.unusedSimpArgs false
namespace Go.Proofs.Ytpnciejalcdgeaa.U
open Go.RowKit Go.Lib Go.Shelf Go.Proofs.YtpnciejalcdgeaaW.PrintWords
attribute [local go_sem] Oper.semAt_some
attribute [local go_sem] go_max2 go_min2

/-- the places of the chunks of n ints -/
abbrev Ck (n : Nat) := { k : Nat // 2 * k < n }
def ckLen (n k : Nat) : Nat := min 2 (n - 2 * k)
def ckV (ad : Addr) (n k : Nat) : Value := .slice (some (ad.add (2 * k))) (ckLen n k) (ckLen n k)
/-- the first j chunks -/
def ckTo (n : Nat) : Nat → List (Ck n)
  | 0 => []
  | k + 1 => if h : 2 * k < n then ckTo n k ++ [⟨k, h⟩] else ckTo n k
theorem ckTo_len (n : Nat) : ∀ k, 2 * k ≤ n + 1 → (ckTo n k).length = k
  | 0, _ => rfl
  | k + 1, h => by rw [ckTo, dif_pos (by omega), List.length_append, ckTo_len n k (by omega)]; rfl
theorem ckTo_succ {n k : Nat} (h : 2 * k < n) : ckTo n (k + 1) = ckTo n k ++ [⟨k, h⟩] := by rw [ckTo, dif_pos h]
/-- what a round keeps: what lay below n₀, and the two boxes -/
structure CkKeep (n₀ B : Nat) (W W' : World) : Prop where
  below : Below n₀ W W'
  one : W'.heap[B]? = W.heap[B]?
  two : W'.heap[B + 1]? = W.heap[B + 1]?
theorem CkKeep.trans {n₀ B : Nat} {A C D : World} (h : CkKeep n₀ B A C) (k : CkKeep n₀ B C D) : CkKeep n₀ B A D := ⟨h.below.trans k.below, k.one.trans h.one, k.two.trans h.two⟩
set_option maxRecDepth 100000 in
set_option maxHeartbeats 4000000 in
theorem chunk1_in (F : Fence) (n : Nat) (hF : F.fn 66) (hro : F.round = none) (hn : 1 ≤ n) (l B n₀ : Nat) (ad : Addr) (len cap : Nat) (hlc : len ≤ cap) (hl64 : len ≤ 64) (J Jx : List (Ck len) → World → Prop)
    (hY : ∀ pre x W, J pre W → pre.length < 64 → YieldAt F (n - 1) Try.prog l #[ckV ad len x.1] W fun e W' =>
      (e = .returned (.bool true) ∧ J (pre ++ [x]) W' ∧ CkKeep n₀ B W W') ∨ (e = .returned (.bool false) ∧ Jx (pre ++ [x]) W'))
    (W : World) (hJd : ∀ s A, J s A → J s A.drew) (hB1 : Boxed W B 24 (.slice (some ad) len cap)) (hB2 : Boxed W (B + 1) 3 (.int .i64 2)) (h0 : J [] W) :
    CallsIn F n Try.prog 66 #[.func (.yield l) #[] #[], .pointer (some ⟨B, 0, none⟩), .pointer (some ⟨B + 1, 0, none⟩)] W fun e W' => (∃ v, e = .returned v) ∧
      ((∃ ys, ys = ckTo len ((len + 1) / 2) ∧ J ys W') ∨ (∃ pre, True ∧ Jx pre W')) := by
  refine callsIn_of_wp Try.func66 rfl hF ?_ hro
  simp only [Try.ntmps66, List.size_toArray, List.length_cons, List.length_nil, Nat.reduceAdd, Nat.reduceSub, Array.replicate_succ, Array.replicate_zero, List.push_toArray, List.append_toArray, List.nil_append, List.cons_append]
  gi_wp2
  gi_loopw [4] (fun i wr => ∃ k : Nat, 2 * k ≤ len + 1 ∧ i = .int .i64 (2 * k : Nat) ∧ J (ckTo len k) wr ∧ Boxed wr B 24 (.slice (some ad) len cap) ∧ Boxed wr (B + 1) 3 (.int .i64 2))
    (fun i _ => 66 - (intOf i).toNat)
  case atStart => exact ⟨0, by omega, rfl, h0, hB1, hB2⟩
  case round =>
    obtain ⟨k, hk, rfl, hJs, hb1, hb2⟩ := hrel
    have c1 := hb1.cell
    have c2 := hb2.cell
    obtain ⟨i, hi⟩ : ∃ i, i = 2 * k := ⟨_, rfl⟩
    rw [← hi]
    by_cases hlt : i < len
    · have t1 : decide ((i : Int) < (len : Int)) = true := decide_eq_true (by omega)
      have hk2 : 2 * k < len := by omega
      have hk2 : 2 * k < len := by omega
      obtain ⟨E, hE⟩ : ∃ E, E = ckLen len k := ⟨_, rfl⟩
      have hE1 : 1 ≤ E ∧ i + E ≤ len ∧ E ≤ 2 := by rw [hE]; unfold ckLen; omega
      have hm : smallMin 2 ((len - i : Nat) : Int) = (E : Int) := by rw [smallMin_min, hE]; unfold ckLen; omega
      obtain ⟨fn, tmps, assign, body, hy, hR⟩ := hY _ ⟨k, hk2⟩ wr.drew (hJd _ _ hJs) (by rw [ckTo_len _ _ (by omega)]; omega)
      have hcv : ckV ad len k = .slice (some (ad.add i)) E E := by unfold ckV; rw [← hE, hi]
      dsimp only at hy hR
      rw [hcv] at hy
      have HI := hid hi
      have HLT := hid hlt
      have g0 : (0 : Int) ≤ (i : Int) := by omega
      have g1 : (i : Int) ≤ (len : Int) := by omega
      have g2 : (i : Int) ≤ (cap : Int) := by omega
      have g3 : (len : Int) ≤ (cap : Int) := by omega
      have g4 : (i : Int) ≤ (i : Int) + (E : Int) := by omega
      have g5 : (i : Int) + (E : Int) ≤ (cap : Int) := by omega
      have c1' : wr.drew.cell? ⟨B, 0, none⟩ = some (.slice (some ad) len cap) := c1
      have c2' : wr.drew.cell? ⟨B + 1, 0, none⟩ = some (.int .i64 2) := c2
      have HKEEP : ∀ W3, CkKeep n₀ B wr.drew W3 → Boxed W3 B 24 (.slice (some ad) len cap) ∧ Boxed W3 (B + 1) 3 (.int .i64 2) := fun W3 h => ⟨h.one.trans hb1, h.two.trans hb2⟩
      have HKP := hid HKEEP
      clear hi hE hlt HKEEP hcv
      gi_wp2
      gi_region_with (fail)
      all_goals
        gi_wp2
        refine hR.mono ?_
        rintro e W3 (⟨rfl, hJ3, hk3⟩ | ⟨rfl, hJx3⟩)
        · obtain ⟨d1, d2⟩ := HKP.out W3 hk3
          have c3 := d1.cell
          have c4 := d2.cell
          gi_wp2
          go_roundw
          case rel => exact ⟨k + 1, by omega, by have := HI.out; congr 1; omega, by rw [ckTo_succ hk2]; exact hJ3, d1, d2⟩
          case measure => have := HI.out; have := HLT.out; simp [intOf]; omega
        · gi_wp2
          refine bodyPost_ret (results_none rfl _ _ _) rfl ?_
          exact ⟨⟨_, rfl⟩, .inr ⟨_, trivial, hJx3⟩⟩
    · have t1 : decide ((i : Int) < (len : Int)) = false := decide_eq_false (by omega)
      have hke : k = (len + 1) / 2 := by omega
      subst hke
      gi_wp2
      go_end0
      exact ⟨⟨_, rfl⟩, .inl ⟨_, rfl, hJs⟩⟩
end Go.Proofs.Ytpnciejalcdgeaa.U
