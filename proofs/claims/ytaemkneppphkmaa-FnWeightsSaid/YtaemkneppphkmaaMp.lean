
/- MaxPart of the program and of the reference. -/
import Derived.Test.YtaemkneppphkmaaCu
import Derived.Test.YtaemkneppphkmaaWt
import Derived.Test.YtaemkneppphkmaaSm
import Derived.Test.YtaemkneppphkmaaAp
set_option linter.unusedVariables false
set_option linter.unusedSimpArgs false
namespace Go.Proofs.Ytaemkneppphkmaa.U
open Go.RowKit Go.Lib Go.Proofs.YtaemkneppphkmaaW.PrintWords

/-- the part from cut j to the next one -/
def partOf (l cuts : List Int) (j : Nat) : List Int := (l.take (rd cuts ((j + 1 : Nat) : Int)).toNat).drop (rd cuts (j : Int)).toNat
attribute [local go_sem] go_max2 go_min2
def mostTo (l cuts : List Int) : Nat → Int
  | 0 => 0
  | j + 1 => bigMax (mostTo l cuts j) (partOf l cuts j).sum
noncomputable def maxPart (l cuts : List Int) : Int := if cutsOk l.length cuts = true ∧ wOk l = true then mostTo l cuts (cuts.length - 1) else -1
theorem asc_le {l : List Int} (h : Asc l) : ∀ (d i : Nat), i + d < l.length → rd l (i : Int) ≤ rd l ((i + d : Nat) : Int) := by
  intro d
  induction d with
  | zero => intro i h1; exact Int.le_refl _
  | succ d ih =>
    intro i h1
    have h2 := ih i (by omega)
    have h3 := h (i + d + 1) (by omega) (by omega)
    simp only [Nat.add_sub_cancel] at h3
    rw [show i + (d + 1) = i + d + 1 by omega]
    omega
structure CutAt (cuts : List Int) (N : Nat) (j : Nat) : Prop where mk :: (out : 0 ≤ rd cuts (j : Int) ∧ rd cuts (j : Int) ≤ rd cuts ((j + 1 : Nat) : Int) ∧ rd cuts ((j + 1 : Nat) : Int) ≤ N)
theorem cut_at {cuts : List Int} {N : Nat} (h : cutsOk N cuts = true) (j : Nat) (hj : j + 1 < cuts.length) : CutAt cuts N j := ⟨by
  obtain ⟨h1, h2, h3, h4⟩ := cutsOk_facts h
  have a := asc_le h4 j 0 (by omega)
  rw [Nat.zero_add] at a
  have a0 : rd cuts ((0 : Nat) : Int) = 0 := h2
  have b := asc_le h4 1 j (by omega)
  have c := asc_le h4 (cuts.length - 1 - (j + 1)) (j + 1) (by omega)
  rw [show j + 1 + (cuts.length - 1 - (j + 1)) = cuts.length - 1 by omega, h3] at c
  omega⟩
theorem part_sum {l cuts : List Int} (h : wOk l = true) (j : Nat) : SumOk (partOf l cuts j) ∧ 0 ≤ (partOf l cuts j).sum ∧ (partOf l cuts j).sum ≤ 1000000000 := by
  have hw := wOk_iff.1 h
  have hm : ∀ x ∈ partOf l cuts j, 0 ≤ x ∧ x ≤ 1000000 := fun x hx => hw.2 x (List.mem_of_mem_take (List.mem_of_mem_drop hx))
  have hlen : (partOf l cuts j).length ≤ 1000 := by unfold partOf; simp; omega
  have hs := sum_bound (partOf l cuts j) 0 1000000 hm
  exact ⟨sumOk_of _ 1000000 (by omega) (fun x hx => by have := hm x hx; omega) (by omega), by omega, by omega⟩
theorem mostTo_range {l cuts : List Int} (h : wOk l = true) : ∀ j, 0 ≤ mostTo l cuts j ∧ mostTo l cuts j ≤ 1000000000
  | 0 => by simp [mostTo]
  | j + 1 => by
    have h1 := mostTo_range (cuts := cuts) h j
    have h2 := part_sum (cuts := cuts) h j
    unfold mostTo bigMax
    split <;> omega
set_option maxRecDepth 100000 in
set_option maxHeartbeats 4000000 in
theorem impl_MaxPart (A : Option Addr) (n c : Nat) (l : List Int) (B : Option Addr) (m d : Nat) (cuts : List Int) (w : World) (r : RI w A n l) (q : RI w B m cuts) (hcap : n ≤ c) :
    Calls Try.prog 13 #[.slice A n c, .slice B m d] w fun e w' => e = .returned (.int .i64 (maxPart l cuts)) ∧ Drawn0 w w' := by
  have hl := r.len
  have hl2 := q.len
  have hm := r.max
  cases hc : cutsOk (n : Int) cuts with
  | false =>
    rw [show maxPart l cuts = -1 by simp [maxPart, hl, hc]]
    have HC := hid hc; clear hc hl hl2
    go_enter Try.func13, Try.ntmps13
    go_wp2_with (go_at_call 35; refine (impl_CutsOk _ _ _ _ _ _ q).mono ?_; rintro e w1 ⟨rfl, d1⟩; rw [HC.out])
    go_ret
    exact ⟨rfl, d1⟩
  | true =>
    cases hw : wOk l with
    | false =>
      rw [show maxPart l cuts = -1 by simp [maxPart, hw]]
      have HC := hid hc; clear hc hl hl2
      have HW := hid hw; clear hw
      go_enter Try.func13, Try.ntmps13
      go_wp2_with (first | (go_at_call 35; refine (impl_CutsOk _ _ _ _ _ _ q).mono ?_; rintro e w1 ⟨rfl, d1⟩; rw [HC.out]) | (go_at_call 33; refine (impl_areWeights _ _ _ _ _ (r.dr d1)).mono ?_; rintro e w2 ⟨rfl, d2⟩; rw [HW.out]))
      go_ret
      exact ⟨rfl, Drawn0.trans' d1 d2⟩
    | true =>
      rw [show maxPart l cuts = mostTo l cuts (m - 1) by simp [maxPart, hl, hl2, hc, hw]]
      have hcu := fun j hj => cut_at hc j hj
      have hps := fun j => part_sum (cuts := cuts) hw j
      have hmr := fun j => mostTo_range (cuts := cuts) hw j
      obtain ⟨⟨f1, f2⟩, _, _, _⟩ := cutsOk_facts hc
      rw [hl2] at f1 f2
      rw [hl2] at hcu
      have HC := hid hc; clear hc
      have HW := hid hw; clear hw
      have HL := hid hl; clear hl
      have HL2 := hid hl2; clear hl2
      have HCU := hid hcu; clear hcu
      have HPS := hid hps; clear hps
      have HMR := hid hmr; clear hmr
      go_enter Try.func13, Try.ntmps13
      go_wp2_with (first | (go_at_call 35; refine (impl_CutsOk _ _ _ _ _ _ q).mono ?_; rintro e w1 ⟨rfl, d1⟩; rw [HC.out]) | (go_at_call 33; refine (impl_areWeights _ _ _ _ _ (r.dr d1)).mono ?_; rintro e w2 ⟨rfl, d2⟩; rw [HW.out]))
      have D := hid (Drawn0.trans' d1 d2)
      clear d1 d2
      go_loopw [5, 20] (fun v i wr => ∃ j : Nat, j ≤ m - 1 ∧ i = .int .i64 j ∧ v = .int .i64 (mostTo l cuts j) ∧ Hid (Drawn0 w wr)) (fun _ i _ => m - (intOf i).toNat)
      case atStart => exact ⟨0, by omega, rfl, rfl, D⟩
      case round =>
        obtain ⟨j, hj, rfl, rfl, hD⟩ := hrel
        by_cases hlt : j < m - 1
        · obtain ⟨g0, g1, g2⟩ := (HCU.out j (by omega)).out
          obtain ⟨A', n', c', hcut, hri, _⟩ := RI.mid A n c l HL.out hcap (rd cuts (j : Int)) (rd cuts ((j + 1 : Nat) : Int)) g0 g1 g2
          obtain ⟨ae, rfl, hx0⟩ := (q.dr hD.out).nat j (by omega)
          obtain ⟨_, e, hx1⟩ := (q.dr hD.out).nat (j + 1) (by omega)
          obtain rfl := Option.some.inj e
          clear e
          rw [add_pos _ _ (by omega)] at hx1
          push_cast at hx1 hcut
          obtain ⟨p1, p2, p3⟩ := HPS.out j
          have hmr := HMR.out j
          have hst : Hid (mostTo l cuts (j + 1) = bigMax (mostTo l cuts j) (partOf l cuts j).sum) := hid rfl
          have hrr := hri _ r
          change RI w A' n' (partOf l cuts j) at hrr
          clear hri g0 g1 g2
          generalize (rd cuts (j : Int)) = a0 at *
          generalize (rd cuts ((j : Int) + 1)) = a1 at *
          generalize mostTo l cuts j = s at *
          generalize partOf l cuts j = L at *
          go_wp2
          go_quiet ((go_at_call 36; exact Calls.quiet_of_same ((impl_sum _ _ _ _ _ (hrr.dr (by first | exact hD.out | exact hD.out.step _)) p1).mono fun e w' h => ⟨h.1, h.2.symm⟩)))
          go_wp2
          go_roundw
          case rel => exact ⟨j + 1, by omega, by go_num, by rw [hst.out], hid (hD.out.step _)⟩
          case measure => simp [intOf]; omega
        · obtain rfl : j = m - 1 := by omega
          go_wp2
          go_ret
          exact ⟨rfl, hD.out⟩
end Go.Proofs.Ytaemkneppphkmaa.U
