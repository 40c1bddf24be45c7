/- How many leaves have another worker, by the program and by the reference. -/
import Derived.Test.YtbjdohceapijjaaCu
import Derived.Test.YtbjdohceapijjaaAp
import Derived.Test.YtbjdohceapijjaaMp
set_option linter.unusedVariables false
set_option linter.unusedSimpArgs false
namespace Go.Proofs.Ytbjdohceapijjaa.U
open Go.RowKit Go.Lib Go.Proofs.YtbjdohceapijjaaW.PrintWords

theorem quietD {P : Program} {f : FuncId} {args : Array Value} {w : World} {n : Nat} {v : Value} (h : Calls P f args (w.drewN n) fun e w' => e = .returned v ∧ Drawn0 (w.drewN n) w') :
    Calls P f args (w.drewN n) fun e w'' => e = .returned v ∧ ∃ m, w'' = w.drewN m := Calls.quiet_of (h.mono fun e w' k => ⟨k.1, k.2.out⟩)
theorem toBool {P : Program} {f : FuncId} {args : Array Value} {w : World} {b c : Bool} {R : World → Prop} (h : Calls P f args w fun e w' => e = .returned (.bool b) ∧ R w') (e0 : b = c) : Calls P f args w fun e w' => e = .returned (.bool c) ∧ R w' := by rw [← e0]; exact h
/-- the last of the first k cuts that is at most i -/
def partTo (cuts : List Int) (i : Int) : Nat → Int
  | 0 => 0
  | k + 1 => if rd cuts (k : Int) ≤ i then (k : Int) else partTo cuts i k
theorem partTo_range (cuts : List Int) (i : Int) : ∀ (k : Nat), 0 ≤ partTo cuts i k ∧ partTo cuts i k ≤ k
  | 0 => by simp [partTo]
  | k + 1 => by
    have := partTo_range cuts i k
    unfold partTo
    split <;> push_cast <;> omega
def movedTo (a b : List Int) : Nat → Int
  | 0 => 0
  | i + 1 => if partTo a i a.length = partTo b i b.length then movedTo a b i else movedTo a b i + 1
theorem movedTo_range (a b : List Int) : ∀ (k : Nat), 0 ≤ movedTo a b k ∧ movedTo a b k ≤ k
  | 0 => by simp [movedTo]
  | k + 1 => by
    have := movedTo_range a b k
    unfold movedTo
    split <;> push_cast <;> omega
def lastOf (a : List Int) : Int := rd a ((a.length - 1 : Nat) : Int)
noncomputable def moved (a b : List Int) : Int :=
  if a.length ≠ 0 ∧ b.length ≠ 0 ∧ cutsOk (lastOf a) a = true ∧ cutsOk (lastOf a) b = true ∧ lastOf a ≤ 1000 then movedTo a b (lastOf a).toNat else -1

set_option maxHeartbeats 2000000 in
theorem impl_workerOf (A : Option Addr) (n c : Nat) (cuts : List Int) (i : Int) (w : World) (r : RI w A n cuts) :
    Calls Try.prog 66 #[.slice A n c, .int .i64 i] w fun e w' => e = .returned (.int .i64 (partTo cuts i n)) ∧ w = w' := by
  have hm := r.max
  go_enter Try.func66, Try.ntmps66
  go_wp2
  go_loop [5, 10] (fun s v => ∃ k : Nat, k ≤ n ∧ v = .int .i64 k ∧ s = .int .i64 (partTo cuts i k)) (fun _ v => n - (intOf v).toNat)
  case atStart => exact ⟨0, by omega, rfl, rfl⟩
  case round =>
    obtain ⟨k, hk, rfl, rfl⟩ := hrel
    by_cases hlt : k < n
    · obtain ⟨ad, rfl, hc⟩ := r.nat k hlt
      by_cases hle : rd cuts (k : Int) ≤ i
      · have hS : Hid (partTo cuts i (k + 1) = k) := hid (by rw [partTo, if_pos hle])
        go_wp2
        go_round
        case rel => exact ⟨k + 1, by omega, by go_num, by rw [hS.out]⟩
        case measure => simp [intOf]; omega
      · have hS : Hid (partTo cuts i (k + 1) = partTo cuts i k) := hid (by rw [partTo, if_neg hle])
        have hgt : i < rd cuts (k : Int) := by omega
        go_wp2
        go_round
        case rel => exact ⟨k + 1, by omega, by go_num, by rw [hS.out]⟩
        case measure => simp [intOf]; omega
    · obtain rfl : k = n := by omega
      go_wp2
      go_ret
      exact ⟨rfl, rfl⟩

set_option maxHeartbeats 2000000 in
theorem l25Part (A : Option Addr) (n c : Nat) (cuts : List Int) (i : Int) (w : World) (r : RI w A n cuts) :
    Calls Try.prog 65 #[.slice A n c, .int .i64 i] w fun e w' => e = .returned (.int .i64 (partTo cuts i n)) ∧ w = w' := by
  have hm := r.max
  go_enter Try.func65, Try.ntmps65
  go_wp2
  go_loop [5, 6] (fun s v => ∃ k : Nat, k ≤ n ∧ v = .int .i64 k ∧ s = .int .i64 (partTo cuts i k)) (fun _ v => n - (intOf v).toNat)
  case atStart => exact ⟨0, by omega, rfl, rfl⟩
  case round =>
    obtain ⟨k, hk, rfl, rfl⟩ := hrel
    by_cases hlt : k < n
    · obtain ⟨ad, rfl, hc⟩ := r.nat k hlt
      by_cases hle : rd cuts (k : Int) ≤ i
      · have hS : Hid (partTo cuts i (k + 1) = k) := hid (by rw [partTo, if_pos hle])
        go_wp2
        go_round
        case rel => exact ⟨k + 1, by omega, by go_num, by rw [hS.out]⟩
        case measure => simp [intOf]; omega
      · have hS : Hid (partTo cuts i (k + 1) = partTo cuts i k) := hid (by rw [partTo, if_neg hle])
        have hgt : i < rd cuts (k : Int) := by omega
        go_wp2
        go_round
        case rel => exact ⟨k + 1, by omega, by go_num, by rw [hS.out]⟩
        case measure => simp [intOf]; omega
    · obtain rfl : k = n := by omega
      go_wp2
      go_ret
      exact ⟨rfl, rfl⟩

set_option maxRecDepth 100000 in
set_option maxHeartbeats 8000000 in
theorem impl_MovedLeaves (A : Option Addr) (n c : Nat) (a : List Int) (B : Option Addr) (m d : Nat) (b : List Int) (w : World) (r : RI w A n a) (q : RI w B m b) :
    Calls Try.prog 39 #[.slice A n c, .slice B m d] w fun e w' => e = .returned (.int .i64 (moved a b)) ∧ Drawn0 w w' := by
  have hl := r.len
  have hl2 := q.len
  have hm := r.max
  have hm2 := q.max
  by_cases hn : n = 0
  · rw [show moved a b = -1 by rw [moved, if_neg (fun h => h.1 (by omega))]]
    have t0 : ((n : Int) == 0) = true := beq_iff_eq.2 (by omega)
    clear hl hl2 hn
    go_enter Try.func39, Try.ntmps39
    go_wp2_with (fail)
    go_ret
    exact ⟨rfl, by first | exact Drawn0.refl _ | exact ⟨⟨_, rfl⟩⟩ | assumption | exact Drawn0.trans' d1 d2⟩
  by_cases hn2 : m = 0
  · rw [show moved a b = -1 by rw [moved, if_neg (fun h => h.2.1 (by omega))]]
    have t0 : ((n : Int) == 0) = false := beq_eq_false_iff_ne.2 (by omega)
    have t1 : ((m : Int) == 0) = true := beq_iff_eq.2 (by omega)
    clear hl hl2 hn hn2
    go_enter Try.func39, Try.ntmps39
    go_wp2_with (fail)
    go_ret
    exact ⟨rfl, by first | exact Drawn0.refl _ | exact ⟨⟨_, rfl⟩⟩ | assumption | exact Drawn0.trans' d1 d2⟩
  have t0 : ((n : Int) == 0) = false := beq_eq_false_iff_ne.2 (by omega)
  have t1 : ((m : Int) == 0) = false := beq_eq_false_iff_ne.2 (by omega)
  have hlast : lastOf a = rd a ((n - 1 : Nat) : Int) := by rw [lastOf, hl]
  obtain ⟨ad, rfl, hc1⟩ := r.nat (n - 1) (by omega)
  have e1 : ((n : Int) - 1).toNat = n - 1 := by omega
  have p1 : 1 ≤ n := by omega
  rw [← hlast] at hc1
  cases hca : cutsOk (lastOf a) a with
  | false =>
    rw [show moved a b = -1 by rw [moved, if_neg (fun h => by rw [h.2.2.1] at hca; cases hca)]]
    have HA := hid hca; clear hca hl hl2 hn hn2 hlast
    generalize lastOf a = N at *
    go_enter Try.func39, Try.ntmps39
    go_wp2_with ((go_at_call 20; refine (toBool (impl_CutsOk _ _ _ _ _ _ r) HA.out).mono ?_; rintro e w' ⟨rfl, d1⟩))
    go_ret
    exact ⟨rfl, by first | exact Drawn0.refl _ | exact ⟨⟨_, rfl⟩⟩ | assumption | exact Drawn0.trans' d1 d2⟩
  | true =>
    cases hcb : cutsOk (lastOf a) b with
    | false =>
      rw [show moved a b = -1 by rw [moved, if_neg (fun h => by rw [h.2.2.2.1] at hcb; cases hcb)]]
      have HA := hid hca; clear hca hl hl2 hn hn2 hlast
      have HB := hid hcb; clear hcb
      generalize lastOf a = N at *
      go_enter Try.func39, Try.ntmps39
      go_wp2_with fail
      refine (toBool (impl_CutsOk _ _ _ _ _ _ r) HA.out).mono ?_
      rintro e w1 ⟨rfl, d1⟩
      go_wp2_with fail
      refine (toBool (impl_CutsOk _ _ _ _ _ _ (q.dr d1)) HB.out).mono ?_
      rintro e w2 ⟨rfl, d2⟩
      go_wp2
      go_ret
      exact ⟨rfl, Drawn0.trans' d1 d2⟩
    | true =>
      have hN0 : 0 ≤ lastOf a := by
        obtain ⟨⟨g1, _⟩, g2, g3, g4⟩ := cutsOk_facts hca
        have := asc_le g4 (a.length - 1) 0 (by omega)
        rw [Nat.zero_add, g3] at this
        have g5 : rd a ((0 : Nat) : Int) = 0 := g2
        omega
      by_cases h1000 : lastOf a ≤ 1000
      · have hM := hid (show moved a b = movedTo a b (lastOf a).toNat by rw [moved, if_pos ⟨by omega, by omega, hca, hcb, h1000⟩])
        have HA := hid hca; clear hca hn hn2 hlast
        have HB := hid hcb; clear hcb
        have hst := hid (show ∀ i : Nat, movedTo a b (i + 1) = if partTo a i n = partTo b i m then movedTo a b i else movedTo a b i + 1 from fun i => by rw [movedTo, hl, hl2])
        have hpa := hid (show ∀ i : Nat, 0 ≤ partTo a i n ∧ partTo a i n ≤ n from fun i => partTo_range a i n)
        have hmr := hid (movedTo_range a b)
        clear hl hl2
        generalize lastOf a = LA at *
        obtain ⟨N, rfl⟩ : ∃ N : Nat, LA = (N : Int) := ⟨LA.toNat, by omega⟩
        rw [Int.toNat_natCast] at hM
        generalize moved a b = R at *
        go_enter Try.func39, Try.ntmps39
        go_wp2_with fail
        refine (toBool (impl_CutsOk _ _ _ _ _ _ r) HA.out).mono ?_
        rintro e w1 ⟨rfl, d1⟩
        go_wp2_with fail
        refine (toBool (impl_CutsOk _ _ _ _ _ _ (q.dr d1)) HB.out).mono ?_
        rintro e w2 ⟨rfl, d2⟩
        have d3 := Drawn0.trans' d1 d2
        clear d1 d2
        have r2 := r.dr d3
        have q2 := q.dr d3
        clear hc1
        go_wp2
        go_loop [6, 37] (fun s v => ∃ k : Nat, k ≤ N ∧ v = .int .i64 k ∧ s = .int .i64 (movedTo a b k)) (fun _ v => N - (intOf v).toNat)
        case atStart => exact ⟨0, by omega, rfl, rfl⟩
        case round =>
          obtain ⟨k, hk, rfl, rfl⟩ := hrel
          by_cases hlt : k < N
          · have hs := hid (hst.out k)
            obtain ⟨g1, g2⟩ := hmr.out k
            generalize movedTo a b k = s at *
            go_wp2_with fail
            refine (impl_workerOf _ _ _ _ _ _ r2).mono ?_
            rintro e w3 ⟨rfl, rfl⟩
            go_wp2_with fail
            refine (impl_workerOf _ _ _ _ _ _ q2).mono ?_
            rintro e w4 ⟨rfl, rfl⟩
            by_cases he : partTo a k n = partTo b k m
            · have hs2 : Hid (movedTo a b (k + 1) = s) := hid (by rw [hs.out, if_pos he])
              have tt : (partTo a k n != partTo b k m) = false := by simp [he]
              clear he
              go_wp2
              go_round
              case rel => exact ⟨k + 1, by omega, by go_num, by rw [hs2.out]⟩
              case measure => simp [intOf]; omega
            · have hs2 : Hid (movedTo a b (k + 1) = s + 1) := hid (by rw [hs.out, if_neg he])
              have tt : (partTo a k n != partTo b k m) = true := by simp [he]
              clear he
              go_wp2
              go_round
              case rel => exact ⟨k + 1, by omega, by go_num, by rw [hs2.out]⟩
              case measure => simp [intOf]; omega
          · obtain rfl : k = N := by omega
            go_wp2
            go_ret
            exact ⟨ret_int hM.out.symm, d3⟩
      · rw [show moved a b = -1 by rw [moved, if_neg (fun h => h1000 h.2.2.2.2)]]
        have HA := hid hca; clear hca hl hl2 hn hn2 hlast
        have HB := hid hcb; clear hcb
        generalize lastOf a = N at *
        go_enter Try.func39, Try.ntmps39
        go_wp2_with fail
        refine (toBool (impl_CutsOk _ _ _ _ _ _ r) HA.out).mono ?_
        rintro e w1 ⟨rfl, d1⟩
        go_wp2_with fail
        refine (toBool (impl_CutsOk _ _ _ _ _ _ (q.dr d1)) HB.out).mono ?_
        rintro e w2 ⟨rfl, d2⟩
        go_wp2
        go_ret
        exact ⟨rfl, Drawn0.trans' d1 d2⟩

set_option maxRecDepth 100000 in
set_option maxHeartbeats 8000000 in
theorem spec_MovedLeaves (A : Option Addr) (n c : Nat) (a : List Int) (B : Option Addr) (m d : Nat) (b : List Int) (w : World) (r : RI w A n a) (q : RI w B m b) :
    Calls Try.prog 38 #[.slice A n c, .slice B m d] w fun e w' => e = .returned (.int .i64 (moved a b)) ∧ Drawn0 w w' := by
  have hl := r.len
  have hl2 := q.len
  have hm := r.max
  have hm2 := q.max
  by_cases hn : n = 0
  · rw [show moved a b = -1 by rw [moved, if_neg (fun h => h.1 (by omega))]]
    have t0 : ((n : Int) == 0) = true := beq_iff_eq.2 (by omega)
    clear hl hl2 hn
    go_enter Try.func38, Try.ntmps38
    go_wp2
    go_quiet (fail)
    go_wp2
    go_ret
    exact ⟨rfl, ⟨⟨_, rfl⟩⟩⟩
  by_cases hn2 : m = 0
  · rw [show moved a b = -1 by rw [moved, if_neg (fun h => h.2.1 (by omega))]]
    have t0 : ((n : Int) == 0) = false := beq_eq_false_iff_ne.2 (by omega)
    have t1 : ((m : Int) == 0) = true := beq_iff_eq.2 (by omega)
    clear hl hl2 hn hn2
    go_enter Try.func38, Try.ntmps38
    go_wp2
    go_quiet (fail)
    go_wp2
    go_ret
    exact ⟨rfl, ⟨⟨_, rfl⟩⟩⟩
  have t0 : ((n : Int) == 0) = false := beq_eq_false_iff_ne.2 (by omega)
  have t1 : ((m : Int) == 0) = false := beq_eq_false_iff_ne.2 (by omega)
  have hlast : lastOf a = rd a ((n - 1 : Nat) : Int) := by rw [lastOf, hl]
  have hlastb : lastOf b = rd b ((m - 1 : Nat) : Int) := by rw [lastOf, hl2]
  obtain ⟨ad, rfl, hc1⟩ := r.nat (n - 1) (by omega)
  obtain ⟨ae, rfl, hc2⟩ := q.nat (m - 1) (by omega)
  have e1 : ((n : Int) - 1).toNat = n - 1 := by omega
  have e2 : ((m : Int) - 1).toNat = m - 1 := by omega
  have p1 : 1 ≤ n := by omega
  have p2 : 1 ≤ m := by omega
  rw [← hlast] at hc1
  rw [← hlastb] at hc2
  have i0 : (0 : Int) ≤ (n : Int) - 1 := by omega
  have i1 : (n : Int) - 1 < (n : Int) := by omega
  have i2 : (0 : Int) ≤ (m : Int) - 1 := by omega
  have i3 : (m : Int) - 1 < (m : Int) := by omega
  have i4 : IntKind.i64.wrap ((n : Int) - 1) = (n : Int) - 1 := i64w (by omega) (by omega)
  have i5 : IntKind.i64.wrap ((m : Int) - 1) = (m : Int) - 1 := i64w (by omega) (by omega)
  by_cases hab : lastOf a = lastOf b
  · have t2 : (lastOf a != lastOf b) = false := by simp [hab]
    by_cases h1000 : 1000 < lastOf a
    · have t3 : decide (1000 < lastOf a) = true := decide_eq_true h1000
      rw [show moved a b = -1 by rw [moved, if_neg (fun h => by have := h.2.2.2.2; omega)]]
      clear hl hl2 hn hn2 hlast hlastb hab h1000
      generalize lastOf a = x at *
      generalize lastOf b = y at *
      go_enter Try.func38, Try.ntmps38
      go_wp2
      go_quiet (fail)
      go_wp2
      go_ret
      exact ⟨rfl, ⟨⟨_, rfl⟩⟩⟩
    · have t3 : decide (1000 < lastOf a) = false := decide_eq_false h1000
      cases hca : cutsOk (lastOf a) a with
      | false =>
        rw [show moved a b = -1 by rw [moved, if_neg (fun h => by rw [h.2.2.1] at hca; cases hca)]]
        have HA := hid hca; clear hca hl hl2 hn hn2 hlast hlastb hab h1000
        generalize lastOf a = x at *
        generalize lastOf b = y at *
        go_enter Try.func38, Try.ntmps38
        go_wp2
        go_quiet ((go_at_call 19; exact quietD (toBool (spec_CutsOk _ _ _ _ _ _ (r.dr ⟨⟨_, rfl⟩⟩)) HA.out)))
        go_wp2
        go_ret
        exact ⟨rfl, ⟨⟨_, rfl⟩⟩⟩
      | true =>
        rw [hab] at t2 t3 h1000 hca hc1
        cases hcb : cutsOk (lastOf b) b with
        | false =>
          rw [show moved a b = -1 by rw [moved, if_neg (fun h => by have := h.2.2.2.1; rw [hab, hcb] at this; cases this)]]
          have HA := hid hca; clear hca hl hl2 hn hn2 hlast hlastb hab h1000
          have HB := hid hcb; clear hcb
          generalize lastOf b = y at *
          go_enter Try.func38, Try.ntmps38
          go_wp2
          go_quiet ((first | (go_at_call 19; exact quietD (toBool (spec_CutsOk _ _ _ _ _ _ (r.dr ⟨⟨_, rfl⟩⟩)) HA.out)) | (go_at_call 19; exact quietD (toBool (spec_CutsOk _ _ _ _ _ _ (q.dr ⟨⟨_, rfl⟩⟩)) HB.out))))
          go_wp2
          go_ret
          exact ⟨rfl, ⟨⟨_, rfl⟩⟩⟩
        | true =>
          have hN0 : 0 ≤ lastOf b := by
            obtain ⟨⟨g1, _⟩, g2, g3, g4⟩ := cutsOk_facts hcb
            have := asc_le g4 (b.length - 1) 0 (by omega)
            rw [Nat.zero_add, g3] at this
            have g5 : rd b ((0 : Nat) : Int) = 0 := g2
            omega
          have hM := hid (show moved a b = movedTo a b (lastOf b).toNat by rw [moved, if_pos ⟨by omega, by omega, by rw [hab]; exact hca, by rw [hab]; exact hcb, by omega⟩, hab])
          have HA := hid hca; clear hca hn hn2 hlast hlastb hab
          have HB := hid hcb; clear hcb
          have hst := hid (show ∀ i : Nat, movedTo a b (i + 1) = if partTo a i n = partTo b i m then movedTo a b i else movedTo a b i + 1 from fun i => by rw [movedTo, hl, hl2])
          have hmr := hid (movedTo_range a b)
          clear hl hl2
          generalize lastOf b = LA at *
          obtain ⟨N, rfl⟩ : ∃ N : Nat, LA = (N : Int) := ⟨LA.toNat, by omega⟩
          rw [Int.toNat_natCast] at hM
          generalize moved a b = R at *
          go_enter Try.func38, Try.ntmps38
          go_wp2
          go_quiet ((first | (go_at_call 19; exact quietD (toBool (spec_CutsOk _ _ _ _ _ _ (r.dr ⟨⟨_, rfl⟩⟩)) HA.out)) | (go_at_call 19; exact quietD (toBool (spec_CutsOk _ _ _ _ _ _ (q.dr ⟨⟨_, rfl⟩⟩)) HB.out))))
          go_wp2
          obtain ⟨W0, hW0⟩ : ∃ W0, W0 = w.drewN nq := ⟨_, rfl⟩
          have d3 : Drawn0 w W0 := ⟨⟨nq, hW0⟩⟩
          rw [← hW0]
          clear hW0
          have r2 := r.dr d3
          have q2 := q.dr d3
          replace hc1 := pw_cell_below d3.below hc1
          clear hc2
          go_loop [5, 6] (fun s v => ∃ k : Nat, k ≤ N ∧ v = .int .i64 k ∧ s = .int .i64 (movedTo a b k)) (fun _ v => N - (intOf v).toNat)
          case atStart => exact ⟨0, by omega, rfl, rfl⟩
          case round =>
            obtain ⟨k, hk, rfl, rfl⟩ := hrel
            by_cases hlt : k < N
            · have hs := hid (hst.out k)
              obtain ⟨g1, g2⟩ := hmr.out k
              generalize movedTo a b k = s at *
              go_wp2_with fail
              refine (l25Part _ _ _ _ _ _ r2).mono ?_
              rintro e w3 ⟨rfl, rfl⟩
              go_wp2_with fail
              refine (l25Part _ _ _ _ _ _ q2).mono ?_
              rintro e w4 ⟨rfl, rfl⟩
              by_cases he : partTo a k n = partTo b k m
              · have hs2 : Hid (movedTo a b (k + 1) = s) := hid (by rw [hs.out, if_pos he])
                have tt : (partTo a k n != partTo b k m) = false := by simp [he]
                clear he
                go_wp2
                go_round
                case rel => exact ⟨k + 1, by omega, by go_num, by rw [hs2.out]⟩
                case measure => simp [intOf]; omega
              · have hs2 : Hid (movedTo a b (k + 1) = s + 1) := hid (by rw [hs.out, if_neg he])
                have tt : (partTo a k n != partTo b k m) = true := by simp [he]
                clear he
                go_wp2
                go_round
                case rel => exact ⟨k + 1, by omega, by go_num, by rw [hs2.out]⟩
                case measure => simp [intOf]; omega
            · obtain rfl : k = N := by omega
              go_wp2
              go_ret
              exact ⟨ret_int hM.out.symm, d3⟩
  · have t2 : (lastOf a != lastOf b) = true := by simp [hab]
    have hmv : moved a b = -1 := by
      rw [moved, if_neg]
      rintro ⟨_, _, _, h, _⟩
      exact hab (cutsOk_facts h).2.2.1.symm
    rw [hmv]
    clear hl hl2 hn hn2 hlast hlastb hab hmv
    generalize lastOf a = x at *
    generalize lastOf b = y at *
    go_enter Try.func38, Try.ntmps38
    go_wp2
    go_quiet (fail)
    go_wp2
    go_ret
    exact ⟨rfl, ⟨⟨_, rfl⟩⟩⟩
end Go.Proofs.Ytbjdohceapijjaa.U
