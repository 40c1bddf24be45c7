
/- slices.Backward of ints, ranged over; regions in a round. -/
import Derived.Test.YtcdibjneoemidaaKs
import Derived.RangeFuncNested
import Derived.RangeFuncBound
import Derived.RangeFuncCalls
import Derived.RangeFuncLeaves
import Derived.RangeFuncBox
import Derived.Shelf.Abstract
import Derived.Shelf.RegionOpen
import Derived.WalkKit
import Derived.OwnWalkIn
import Derived.TacticsInMore
import Derived.LoopNIn
import Derived.LoopIn
set_option linter.unusedVariables false
set_option linter.unusedSimpArgs false
namespace Go.Proofs.Ytcdibjneoemidaa.U
open Go.RowKit Go.Lib Go.Proofs.YtcdibjneoemidaaW.PrintWords

open Go.Shelf

attribute [local go_sem] Oper.semAt_some
theorem any_wide {n : Nat} {P : Program} {md : Region.Mode} {ops : Array Oper} {Q : Exit → Act → World → Prop} (hno : ∀ a w, ¬ Q .outgrown a w) (hnd : ∀ (i : Nat) (o : Oper), ops[i]? = some o → ∀ c, o.op ≠ .defer c) :
    ∀ (fuel : Nat) (listed : Array Bool) (a : Act) (w : World), wpAny P md ops Q fuel listed a w → wpAnyIn Fence.wide n P md ops Q fuel listed a w
  | 0, _, _, _, h => h
  | fuel + 1, listed, a, w, h => by
    refine ⟨h.1, fun i hi => ?_⟩
    have h2 := h.2 i hi
    unfold wpOp at h2
    unfold wpOpIn
    cases ho : ops[i]? with
    | none => rw [ho] at h2; exact any_wide hno hnd _ _ _ _ h2
    | some o =>
      rw [ho] at h2
      simp only at h2 ⊢
      split at h2
      · rename_i hw
        rw [if_pos hw]
        rcases h2 with h2 | h2
        · have h3 := Oper.wp_mono (K' := wpAnyIn Fence.wide n P md ops Q fuel (listed.setIfInBounds i true)) (fun a w h => any_wide hno hnd _ _ _ _ h) h2
          unfold Oper.wp at h3
          unfold Oper.wpIn
          refine ⟨fun _ _ => trivial, ?_⟩
          rw [Oper.semAt_plain Fence.wide _ _ (hnd i o ho)]
          generalize (execOp a.eval o).run P w = r at h3 ⊢
          cases r with
          | ok x w' =>
            cases x with
            | enter f args => exact And.intro (fun h => absurd h (by decide)) (callsIn_wide.2 h3)
            | row row args => exact And.intro (fun h => absurd h (by decide)) (fun c cs _ => let ⟨v, w', r, s⟩ := h3 c cs; ⟨v, w', r, stepsIn_wide.2 s⟩)
            | round l f tmps assign body => exact h3.elim
            | _ => exact h3
          | halt x w' => cases x <;> exact h3
        · obtain ⟨a2, w2, h4⟩ := h2.2
          exact (hno _ _ h4).elim
      · rename_i hw
        rw [if_neg hw]
        exact ⟨fun _ _ => trivial, any_wide hno hnd _ _ _ _ h2⟩
/-- What is shown of a drawn region outside a round holds in a round, where no operation defers. -/
theorem any_inRoundB {F : Fence} {n : Nat} {P : Program} {md : Region.Mode} {ops : Array Oper} {Q : Exit → Act → World → Prop} (hro : F.round = none) (l : Nat) (hnd : ∀ (i : Nat) (o : Oper), ops[i]? = some o → ∀ c, o.op ≠ .defer c) :
    ∀ (fuel : Nat) (listed : Array Bool) (a : Act) (w : World), wpAnyIn F n P md ops Q fuel listed a w → wpAnyIn (F.inRound l) n P md ops Q fuel listed a w
  | 0, _, _, _, h => h
  | fuel + 1, listed, a, w, h => by
    refine ⟨h.1, fun i hi => ?_⟩
    have h2 := h.2 i hi
    unfold wpOpIn at h2 ⊢
    cases ho : ops[i]? with
    | none => rw [ho] at h2; exact any_inRoundB hro l hnd _ _ _ _ h2
    | some o =>
      rw [ho] at h2
      simp only at h2 ⊢
      split at h2
      · rename_i hw
        rw [if_pos hw]
        have h3 := Oper.wpIn_mono (K' := wpAnyIn (F.inRound l) n P md ops Q fuel (listed.setIfInBounds i true)) (fun a w h => any_inRoundB hro l hnd _ _ _ _ h) h2
        unfold Oper.wpIn at h3 ⊢
        refine ⟨h3.1, ?_⟩
        have h4 := h3.2
        have e : o.semAt (F.inRound l).round a.eval = o.semAt F.round a.eval := by
          rw [Oper.semAt_plain F _ _ (hnd i o ho), Oper.semAt_plain (F.inRound l) _ _ (hnd i o ho)]
        rw [e]
        generalize (o.semAt F.round a.eval).run P w = r at h4 ⊢
        cases r with
        | ok x w' => cases x <;> exact h4
        | halt x w' => cases x <;> exact h4
      · rename_i hw
        rw [if_neg hw]
        exact ⟨h2.1, any_inRoundB hro l hnd _ _ _ _ h2.2⟩

section
open Go.Proofs.YtcdibjneoemidaaW.PrintLast Go.Proofs.YtcdibjneoemidaaW.PrintMore
variable {P : Program} {ops : Array Oper} {Q : Exit → Act → World → Prop} {S : World → Prop} {ds : List Nat}
/-- a region that draws, in a round: the orders as start_ begins them -/
theorem startR_ {id n k l : Nat} {a : Act} {w : World} (lst : Array Bool) (hm : P.follows .mixedOrders = true) (hn : ops.size = n) (hl : Array.replicate n false = lst) (hno : ∀ a w, ¬ Q .outgrown a w) (hnd : (ops.all fun o => match o.op with | .defer _ => false | _ => true) = true) (hS : S w.drew)
    (h : S w.drew → wpAnyLast P .any ops Q S ds n lst a w.drew) : (Code.region id ops true).wpIn (Fence.wide.inRound l) k P Q a w := by
  subst hn
  subst hl
  have hd : ∀ (i : Nat) (o : Oper), ops[i]? = some o → ∀ c, o.op ≠ .defer c := fun i o ho c e => by
    obtain ⟨hi, rfl⟩ := Array.getElem?_eq_some_iff.1 ho
    have := Array.all_eq_true.1 hnd i hi
    rw [e] at this
    cases this
  exact wpIn_region_any hm (any_inRoundB (F := Fence.wide) rfl l hd _ _ _ _ (any_wide hno hd _ _ _ _ (wpAny_of_last _ _ _ _ (h hS))))
end
theorem RI.same {w w' : World} {ad : Addr} {n : Nat} {l : List Int} (r : RI w (some ad) n l) (h : w'.heap[ad.block]? = w.heap[ad.block]?) : RI w' (some ad) n l := ⟨⟨r.out.1, r.out.2.1, fun hn => by
  obtain ⟨ad2, e, hc⟩ := r.out.2.2 hn
  obtain rfl := Option.some.inj e
  refine ⟨_, rfl, fun j hj => ?_⟩
  have h1 : (ad.add j).block = ad.block := by unfold Addr.add; split <;> rfl
  exact (World.cell?_of_block (show w'.heap[(ad.add j).block]? = w.heap[(ad.add j).block]? by rw [h1]; exact h)).trans (hc j hj)⟩⟩
/-- the places of n ints, the last first -/
abbrev Bk (n : Nat) := { p : Nat // p < n }
def bkTo (n : Nat) : Nat → List (Bk n)
  | 0 => []
  | k + 1 => if h : k < n then bkTo n k ++ [⟨n - 1 - k, by omega⟩] else bkTo n k
theorem bkTo_len (n : Nat) : ∀ k, k ≤ n → (bkTo n k).length = k
  | 0, _ => rfl
  | k + 1, h => by rw [bkTo, dif_pos (by omega), List.length_append, bkTo_len n k (by omega)]; rfl
theorem bkTo_succ {n k : Nat} (h : k < n) : bkTo n (k + 1) = bkTo n k ++ [⟨n - 1 - k, by omega⟩] := by rw [bkTo, dif_pos h]
/-- what a round keeps: what lay below n₀, the iterator's box, the row it reads -/
structure BkKeep (n₀ B g : Nat) (W W' : World) : Prop where
  below : Below n₀ W W'
  one : W'.heap[B]? = W.heap[B]?
  row : W'.heap[g]? = W.heap[g]?
theorem BkKeep.trans {n₀ B g : Nat} {A C D : World} (h : BkKeep n₀ B g A C) (k : BkKeep n₀ B g C D) : BkKeep n₀ B g A D := ⟨h.below.trans k.below, k.one.trans h.one, k.row.trans h.row⟩
set_option maxRecDepth 100000 in
set_option maxHeartbeats 4000000 in
theorem back1_in (F : Fence) (n : Nat) (hF : F.fn 56) (hro : F.round = none) (hn : 1 ≤ n) (l B n₀ g len cap : Nat) (L : List Int) (W0 : World) (rl : RI W0 (some ⟨g, 0, none⟩) len L) (hl : len ≤ 1000) (J Jx : List (Bk len) → World → Prop)
    (hY : ∀ pre x W, J pre W → pre.length < 1001 → YieldAt F (n - 1) Try.prog l #[.int .i64 (x.1 : Int), .int .i64 (rd L (x.1 : Int))] W fun e W' =>
      (e = .returned (.bool true) ∧ J (pre ++ [x]) W' ∧ BkKeep n₀ B g W W') ∨ (e = .returned (.bool false) ∧ Jx (pre ++ [x]) W'))
    (W : World) (hB1 : Boxed W B 22 (.slice (some ⟨g, 0, none⟩) len cap)) (hR : W.heap[g]? = W0.heap[g]?) (h0 : J [] W) :
    CallsIn F n Try.prog 56 #[.func (.yield l) #[] #[], .pointer (some ⟨B, 0, none⟩)] W fun e W' => (∃ v, e = .returned v) ∧
      ((∃ ys, ys = bkTo len len ∧ J ys W') ∨ (∃ pre, True ∧ Jx pre W')) := by
  have c0 := hB1.cell
  have e0 : IntKind.i64.wrap ((len : Int) - 1) = (len : Int) - 1 := i64w (by omega) (by omega)
  refine callsIn_of_wp Try.func56 rfl hF ?_ hro
  simp only [Try.ntmps56, List.size_toArray, List.length_cons, List.length_nil, Nat.reduceAdd, Nat.reduceSub, Array.replicate_succ, Array.replicate_zero, List.push_toArray, List.append_toArray, List.nil_append, List.cons_append]
  gi_wp2
  clear c0 e0
  gi_loopw [3] (fun i wr => ∃ (k : Nat) (z : Int), k ≤ len ∧ z = (len : Int) - 1 - k ∧ i = .int .i64 z ∧ J (bkTo len k) wr ∧ Boxed wr B 22 (.slice (some ⟨g, 0, none⟩) len cap) ∧ Hid (wr.heap[g]? = W0.heap[g]?))
    (fun i _ => (RowKit.intOf i + 1).toNat)
  case atStart => exact ⟨0, _, by omega, rfl, by simp, h0, hB1, hid hR⟩
  case round =>
    obtain ⟨k, z, hk, hz, rfl, hJs, hb1, hrow⟩ := hrel
    have c1 := hb1.cell
    by_cases hlt : k < len
    · obtain ⟨p, hp⟩ : ∃ p, p = len - 1 - k := ⟨_, rfl⟩
      obtain rfl : z = (p : Int) := by omega
      have hpl : p < len := by omega
      have t1 : decide ((p : Int) ≥ 0) = true := decide_eq_true (by omega)
      have t1' : decide ((0 : Int) ≤ (p : Int)) = true := decide_eq_true (by omega)
      have e1 : IntKind.i64.wrap ((p : Int) - 1) = (p : Int) - 1 := i64w (by omega) (by omega)
      have g0 : (0 : Int) ≤ (p : Int) := by clear e1; omega
      have g1 : (p : Int) < (len : Int) := by clear e1; omega
      obtain ⟨_, e9, x0⟩ := (rl.same hrow.out).nat p hpl
      obtain rfl := Option.some.inj e9
      have x1 : wr.cell? ⟨g, p, none⟩ = some (.int .i64 (rd L (p : Int))) := by rw [add_off ⟨g, 0, none⟩ g 0 p rfl, Nat.zero_add] at x0; exact x0
      obtain ⟨fn, tmps, assign, body, hy, hRR⟩ := hY _ ⟨p, hpl⟩ wr hJs (by rw [bkTo_len _ _ (by clear e1; omega)]; clear e1; omega)
      dsimp only at hy hRR
      have HS := hid (show bkTo len (k + 1) = bkTo len k ++ [⟨p, hpl⟩] by rw [bkTo_succ hlt]; simp only [hp])
      have HKP := hid (show ∀ W3, BkKeep n₀ B g wr W3 → Boxed W3 B 22 (.slice (some ⟨g, 0, none⟩) len cap) ∧ W3.heap[g]? = W0.heap[g]? from fun W3 h => ⟨h.one.trans hb1, h.row.trans hrow.out⟩)
      have HKK := hid (show k + 1 ≤ len ∧ (p : Int) - 1 = (len : Int) - 1 - ((k + 1 : Nat) : Int) by clear e1; omega)
      clear hp hz hlt x0
      generalize rd L (p : Int) = v at *
      gi_wp2
      refine hRR.mono ?_
      rintro e W3 (⟨rfl, hJ3, hk3⟩ | ⟨rfl, hJx3⟩)
      · obtain ⟨d1, d2⟩ := HKP.out W3 hk3
        have c3 := d1.cell
        gi_wp2
        go_roundw
        case rel => exact ⟨k + 1, _, HKK.out.1, HKK.out.2, rfl, by rw [HS.out]; exact hJ3, d1, hid d2⟩
        case measure => simp [RowKit.intOf]
      · gi_wp2
        refine bodyPost_ret (results_none rfl _ _ _) rfl ?_
        exact ⟨⟨_, rfl⟩, .inr ⟨_, trivial, hJx3⟩⟩
    · obtain rfl : k = len := by omega
      obtain rfl : z = -1 := by omega
      have t1 : decide ((-1 : Int) ≥ 0) = false := by decide
      have t1' : decide ((0 : Int) ≤ -1) = false := by decide
      gi_wp2
      go_end0
      exact ⟨⟨_, rfl⟩, .inl ⟨_, rfl, hJs⟩⟩
theorem bk_stops (n : Nat) (hn : 1 ≤ n) (B n₀ g len cap : Nat) (L : List Int) (hl : len ≤ 1000) (w : World) (rl : RI w (some ⟨g, 0, none⟩) len L) (hg : g < w.heap.size) (hB : B < w.heap.size) (hB1 : Boxed w B 22 (.slice (some ⟨g, 0, none⟩) len cap)) :
    SeqStopsK Fence.wide n Try.prog 56 #[.pointer (some ⟨B, 0, none⟩)] (fun x : Bk len => #[.int .i64 (x.1 : Int), .int .i64 (rd L (x.1 : Int))]) (BkKeep n₀ B g) (fun ys => ys = bkTo len len) (fun _ => True) 1001 w := fun l J Jx W hW hJ _ hY h0 =>
  back1_in Fence.wide n trivial rfl hn l B n₀ g len cap L w rl hl J Jx hY W ((hW.block B hB).trans hB1) (hW.block g hg) h0
set_option maxHeartbeats 1000000 in
theorem Backward (A : Option Addr) (n c : Nat) (w : World) :
    Calls Try.prog 46 #[.slice A n c] w fun e w' => e = .returned (.func (.func 56) #[] #[.pointer (some ⟨w.heap.size, 0, none⟩)]) ∧ w' = w.alloc (.cells #[.slice A n c] 22) := by
  go_enter Try.func46, Try.ntmps46
  go_wp2
  go_ret
  exact ⟨rfl, rfl⟩
end Go.Proofs.Ytcdibjneoemidaa.U
