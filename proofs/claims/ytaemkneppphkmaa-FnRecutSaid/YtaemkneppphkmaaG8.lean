
/- The laws' sameInts over two slices that read alike; the laws' big. -/
import Derived.Test.YtaemkneppphkmaaAp
import Derived.Test.YtaemkneppphkmaaG1
import Derived.Test.YtaemkneppphkmaaCf
import Derived.Test.YtaemkneppphkmaaSm
set_option linter.unusedVariables false
set_option linter.unusedSimpArgs false
namespace Go.Proofs.Ytaemkneppphkmaa.U
open Go.RowKit Go.Lib Go.Proofs.YtaemkneppphkmaaW.PrintWords

theorem lawbig (A : Option Addr) (n c : Nat) (w : World) : Calls Try.prog 8 #[.slice A n c] w fun e w' => e = .returned (.bool (decide (1048576 < (n : Int)))) ∧ w = w' := by
  go_enter Try.func8, Try.ntmps8
  go_wp2
  go_ret
  exact ⟨rfl, rfl⟩
end Go.Proofs.Ytaemkneppphkmaa.U
set_option linter.unusedVariables false
set_option linter.unusedSimpArgs false
namespace Go.Proofs.Ytaemkneppphkmaa.U
open Go.RowKit Go.Lib Go.Proofs.YtaemkneppphkmaaW.PrintWords

theorem oi_form {w : World} {base n c : Nat} {A : Option Addr} {l : List Int} (h : OI w base (.slice A n c) n l) (hn : 0 < n) : ∃ g, A = some ⟨g, 0, none⟩ ∧ base ≤ g := by
  obtain ⟨g, cap, e, hgb, hgl⟩ := h.out.form (by omega)
  obtain ⟨rfl, rfl⟩ : A = some ⟨g, 0, none⟩ ∧ c = cap := by injection e with e1 _ e3; exact ⟨e1, e3⟩
  exact ⟨g, rfl, hgb⟩
theorem oi_store {w : World} {base n c g : Nat} {l : List Int} (h : OI w base (.slice (some ⟨g, 0, none⟩) n c) n l) (j : Nat) (x : Int) : OI (w.setCell ⟨g, j, none⟩ (.int .i64 x)) base (.slice (some ⟨g, 0, none⟩) n c) n (l.set j x) := by
  have hs := (own_store h.out (j : Int) x).1
  rw [Int.toNat_natCast] at hs
  exact ⟨hs⟩
theorem oi_cell {w : World} {base n c g : Nat} {l : List Int} (h : OI w base (.slice (some ⟨g, 0, none⟩) n c) n l) (j : Nat) (hj : j < n) : w.cell? ⟨g, j, none⟩ = some (.int .i64 (rd l (j : Int))) ∧ w.frozen? ⟨g, j, none⟩ = false := by
  have hl := h.len
  have h2 := own_at h.out (j : Int) (by omega) (by omega)
  rw [Int.toNat_natCast] at h2
  obtain ⟨ad, e, hc⟩ := h.ri.nat j hj
  obtain rfl := Option.some.inj e
  have e2 : (⟨g, 0, none⟩ : Addr).add j = ⟨g, j, none⟩ := by
    rcases Nat.eq_zero_or_pos j with h0 | h0
    · subst h0; simp [Addr.add]
    · rw [add_pos _ _ h0]; simp
  rw [e2] at hc
  exact ⟨hc, h2.2⟩
theorem bw_store {w w1 : World} {g : Nat} (h : Bw w w1) (hg : w.heap.size ≤ g) (i : Nat) (u : Value) : Bw w (w1.setCell ⟨g, i, none⟩ u) := ⟨h.out.setCell (p := ⟨g, i, none⟩) hg u⟩
/-- the literal of two ints that an append of two numbers lays first -/
theorem lit2 (W : World) (x y : Int) : RI (W.alloc (.cells #[.int .i64 x, .int .i64 y] 3)) (some ⟨W.heap.size, 0, none⟩) 2 [x, y] := by
  have h : OI (W.alloc (.cells #[.int .i64 x, .int .i64 y] 3)) W.heap.size (.slice (some ⟨W.heap.size, 0, none⟩) 2 2) 2 [x, y] := ⟨own_lit W W.heap.size 3 .i64 [x, y] (Nat.le_refl _) (by simp)⟩
  exact h.ri
end Go.Proofs.Ytaemkneppphkmaa.U
set_option linter.unusedVariables false
set_option linter.unusedSimpArgs false
namespace Go.Proofs.Ytaemkneppphkmaa.U
open Go.RowKit Go.Lib Go.Proofs.YtaemkneppphkmaaW.PrintWords

/-- a list that nowhere descends -/
def Asc (l : List Int) : Prop := ∀ j, 1 ≤ j → j < l.length → rd l ((j - 1 : Nat) : Int) ≤ rd l (j : Int)
noncomputable def ascB (l : List Int) : Bool := @decide (Asc l) (Classical.propDecidable _)
theorem ascB_yes {l : List Int} (h : Asc l) : ascB l = true := by unfold ascB; exact @decide_eq_true _ (Classical.propDecidable _) h
theorem ascB_no {l : List Int} (h : ¬ Asc l) : ascB l = false := by unfold ascB; exact @decide_eq_false _ (Classical.propDecidable _) h
theorem ascB_iff {l : List Int} : ascB l = true ↔ Asc l := by
  constructor
  · intro h; by_cases hc : Asc l
    · exact hc
    · rw [ascB_no hc] at h; cases h
  · exact ascB_yes
noncomputable def cutsOk (n : Int) (l : List Int) : Bool := inR l.length 2 17 && (rd l 0 == 0) && (rd l ((l.length - 1 : Nat) : Int) == n) && ascB l
theorem cutsOk_facts {n : Int} {l : List Int} (h : cutsOk n l = true) : (2 ≤ l.length ∧ l.length ≤ 17) ∧ rd l 0 = 0 ∧ rd l ((l.length - 1 : Nat) : Int) = n ∧ Asc l := by
  simp only [cutsOk, Bool.and_eq_true, inR_iff, beq_iff_eq, ascB_iff] at h
  obtain ⟨⟨⟨⟨h1, h1'⟩, h2⟩, h3⟩, h4⟩ := h
  exact ⟨⟨by omega, by omega⟩, h2, h3, h4⟩
theorem isNaN (x : Int) (w : World) : Calls Try.prog 112 #[.int .i64 x] w fun e w' => e = .returned (.bool false) ∧ w = w' := by
  go_enter Try.func112, Try.ntmps112
  go_wp2
  go_ret
  exact ⟨by simp, rfl⟩
theorem less (x y : Int) (w : World) : Calls Try.prog 92 #[.int .i64 x, .int .i64 y] w fun e w' => e = .returned (.bool (decide (x < y))) ∧ w = w' := by
  go_enter Try.func92, Try.ntmps92
  go_wp2_with (go_at_call 112; refine (isNaN _ _).mono ?_; rintro e w' ⟨rfl, rfl⟩)
  go_ret
  exact ⟨rfl, rfl⟩
set_option maxHeartbeats 2000000 in
theorem IsSorted (A : Option Addr) (n c : Nat) (l : List Int) (w : World) (r : RI w A n l) :
    Calls Try.prog 63 #[.slice A n c] w fun e w' => e = .returned (.bool (ascB l)) ∧ Drawn0 w w' := by
  have hm := r.max
  have hl := hid r.len
  go_enter Try.func63, Try.ntmps63
  go_wp2
  go_loopw [3] (fun i wr => ∃ k : Int, -1 ≤ k ∧ k < n ∧ i = .int .i64 k ∧ Hid (∀ j : Nat, k < j → 1 ≤ j → j < n → rd l ((j - 1 : Nat) : Int) ≤ rd l (j : Int)) ∧ Hid (Drawn0 w wr)) (fun i _ => (intOf i).toNat)
  case atStart => exact ⟨(n : Int) - 1, by omega, by omega, by go_num, hid (fun j h1 h2 h3 => by omega), hid (Drawn0.refl _)⟩
  case round =>
    obtain ⟨k, hk0, hk, rfl, hE, hD⟩ := hrel
    by_cases hpos : 0 < k
    · obtain ⟨kn, rfl⟩ : ∃ kn : Nat, k = ((kn + 1 : Nat) : Int) := ⟨(k - 1).toNat, by omega⟩
      obtain ⟨ad, rfl, hc1⟩ := (r.dr hD.out).nat (kn + 1) (by omega)
      obtain ⟨_, e, hc0⟩ := (r.dr hD.out).nat kn (by omega)
      obtain rfl := Option.some.inj e
      clear e
      rw [add_pos _ _ (by omega)] at hc1
      push_cast at hc1
      by_cases hd : rd l ((kn : Int) + 1) < rd l (kn : Int)
      · have hno := hid (ascB_no (l := l) (fun h => by have := h (kn + 1) (by omega) (by rw [hl.out]; omega); simp only [Nat.add_sub_cancel] at this; push_cast at this; omega))
        go_wp2
        go_quiet ((go_at_call 92; exact Calls.quiet_of_same ((less _ _ _).mono fun e w' h => ⟨h.1, h.2.symm⟩)))
        go_wp2
        go_ret
        exact ⟨ret_bool hno.out.symm, hD.out.step _⟩
      · have hE2 : Hid (∀ j : Nat, (kn : Int) < j → 1 ≤ j → j < n → rd l ((j - 1 : Nat) : Int) ≤ rd l (j : Int)) := hid (fun j h1 h2 h3 => by
          by_cases e : j = kn + 1
          · subst e; simp only [Nat.add_sub_cancel]; push_cast <;> omega
          · exact hE.out j (by omega) h2 h3)
        go_wp2
        go_quiet ((go_at_call 92; exact Calls.quiet_of_same ((less _ _ _).mono fun e w' h => ⟨h.1, h.2.symm⟩)))
        go_wp2
        go_roundw
        case rel => exact ⟨(kn : Int), by omega, by omega, by go_num, hE2, hid (hD.out.step _)⟩
        case measure => simp [intOf] <;> omega
    · go_wp2
      go_ret
      refine ⟨ret_bool (ascB_yes (fun j h1 h2 => ?_)).symm, hD.out⟩
      exact hE.out j (by omega) h1 (by rw [hl.out] at h2; exact h2)
theorem first_last (A : Option Addr) (n : Nat) (l : List Int) (w : World) (r : RI w A n l) (h : 2 ≤ n) : ∃ ad, A = some ad ∧ w.cell? (ad.add 0) = some (.int .i64 (rd l 0)) ∧ w.cell? (ad.add (n - 1)) = some (.int .i64 (rd l ((n - 1 : Nat) : Int))) := by
  obtain ⟨ad, rfl, h0⟩ := r.nat 0 (by omega)
  obtain ⟨_, e, h1⟩ := r.nat (n - 1) (by omega)
  obtain rfl := Option.some.inj e
  exact ⟨ad, rfl, h0, h1⟩
theorem add_zero' (ad : Addr) : ad.add 0 = ad := by simp [Addr.add]
set_option maxHeartbeats 2000000 in
theorem impl_CutsOk (N : Int) (A : Option Addr) (n c : Nat) (l : List Int) (w : World) (r : RI w A n l) :
    Calls Try.prog 35 #[.int .i64 N, .slice A n c] w fun e w' => e = .returned (.bool (cutsOk N l)) ∧ Drawn0 w w' := by
  have hl := r.len
  have hm := r.max
  cases hin : inR (n : Int) 2 17 with
  | false =>
    rw [show cutsOk N l = false by simp [cutsOk, hl, hin]]
    have HI := hid hin; clear hin hl
    go_enter Try.func35, Try.ntmps35
    go_wp2_with (go_at_call 60; refine (within _ _ _ _).mono ?_; rintro e w' ⟨rfl, rfl⟩; rw [HI.out])
    go_ret
    exact ⟨rfl, Drawn0.refl _⟩
  | true =>
    have h2 := inR_iff.1 hin
    obtain ⟨ad, rfl, c0, c1⟩ := first_last A n l w r (by omega)
    rw [add_zero'] at c0
    have e1 : ((n : Int) - 1).toNat = n - 1 := by omega
    have hco : cutsOk N l = ((rd l 0 == 0) && (rd l ((n - 1 : Nat) : Int) == N) && ascB l) := by simp [cutsOk, hl, hin]
    rw [hco]
    generalize rd l ((n - 1 : Nat) : Int) = x at *
    generalize hy : rd l 0 = y at *
    have HI := hid hin; clear hin hl hco hy
    obtain ⟨h3, h4⟩ := h2
    by_cases k0 : y = 0
    · have t0 : (y == 0) = true := beq_iff_eq.2 k0
      rw [t0, Bool.true_and]
      subst k0
      clear t0
      by_cases k1 : x = N
      · have t1 : (x == N) = true := beq_iff_eq.2 k1
        rw [t1, Bool.true_and]
        subst k1
        clear t1
        go_enter Try.func35, Try.ntmps35
        go_wp2_with (first | (go_at_call 60; refine (within _ _ _ _).mono ?_; rintro e w' ⟨rfl, rfl⟩; rw [HI.out]) | (go_at_call 63; refine (IsSorted _ _ _ _ _ r).mono ?_; rintro e w' ⟨rfl, d⟩))
        go_ret
        exact ⟨rfl, d⟩
      · have t1 : (x == N) = false := beq_eq_false_iff_ne.2 k1
        rw [t1, Bool.false_and]
        clear k1
        go_enter Try.func35, Try.ntmps35
        go_wp2_with (first | (go_at_call 60; refine (within _ _ _ _).mono ?_; rintro e w' ⟨rfl, rfl⟩; rw [HI.out]) | (go_at_call 63; refine (IsSorted _ _ _ _ _ r).mono ?_; rintro e w' ⟨rfl, d⟩))
        go_ret
        exact ⟨rfl, Drawn0.refl _⟩
    · have t0 : (y == 0) = false := beq_eq_false_iff_ne.2 k0
      rw [t0, Bool.false_and, Bool.false_and]
      clear k0
      go_enter Try.func35, Try.ntmps35
      go_wp2_with (first | (go_at_call 60; refine (within _ _ _ _).mono ?_; rintro e w' ⟨rfl, rfl⟩; rw [HI.out]) | (go_at_call 63; refine (IsSorted _ _ _ _ _ r).mono ?_; rintro e w' ⟨rfl, d⟩))
      go_ret
      exact ⟨rfl, Drawn0.refl _⟩
end Go.Proofs.Ytaemkneppphkmaa.U
set_option linter.unusedVariables false
set_option linter.unusedSimpArgs false
namespace Go.Proofs.Ytaemkneppphkmaa.U
open Go.RowKit Go.Lib Go.Proofs.YtaemkneppphkmaaW.PrintWords

/-- at most 1000 weights, each in the range 0 to 1000000 -/
def wOk (l : List Int) : Bool := decide (l.length ≤ 1000) && l.all (fun x => inR x 0 1000000)
theorem wOk_iff {l : List Int} : wOk l = true ↔ l.length ≤ 1000 ∧ ∀ x ∈ l, 0 ≤ x ∧ x ≤ 1000000 := by simp [wOk, inR_iff]
theorem weights_pred (w : World) : PredI 62 #[] (fun x => !inR x 0 1000000) w := ⟨fun W x d => by
  go_enter Try.func62, Try.ntmps62
  go_wp2_with fail
  refine (within _ _ _ _).mono ?_
  rintro e w' ⟨rfl, rfl⟩
  go_wp2
  go_ret
  exact ⟨rfl, Drawn0.refl _⟩⟩
theorem impl_areWeights (A : Option Addr) (n c : Nat) (l : List Int) (w : World) (r : RI w A n l) :
    Calls Try.prog 33 #[.slice A n c] w fun e w' => e = .returned (.bool (wOk l)) ∧ Drawn0 w w' := by
  have hl := r.len
  have eg := enters_of Try.func62 (by kernel_rfl) rfl
  by_cases h : n ≤ 1000
  · have hw : wOk l = !(l.any fun x => !inR x 0 1000000) := by rw [not_any_not]; simp [wOk, hl, h]
    rw [hw]
    clear hw hl
    go_enter Try.func33, Try.ntmps33
    go_wp2_with fail
    refine (ContainsFunc A n c l _ _ _ _ r (weights_pred _) eg).mono ?_
    rintro e w' ⟨rfl, d⟩
    go_wp2
    go_ret
    exact ⟨rfl, d⟩
  · have hw : wOk l = false := by simp [wOk, hl, h]
    rw [hw]
    clear hw hl
    go_enter Try.func33, Try.ntmps33
    go_wp2
    go_ret
    exact ⟨rfl, Drawn0.refl _⟩
end Go.Proofs.Ytaemkneppphkmaa.U
set_option linter.unusedVariables false
set_option linter.unusedSimpArgs false
namespace Go.Proofs.Ytaemkneppphkmaa.U
open Go.RowKit Go.Lib Go.Proofs.YtaemkneppphkmaaW.PrintWords

/-- the part from cut j to the next one -/
def partOf (l cuts : List Int) (j : Nat) : List Int := (l.take (rd cuts ((j + 1 : Nat) : Int)).toNat).drop (rd cuts (j : Int)).toNat
attribute [local go_sem] go_max2 go_min2
def mostTo (l cuts : List Int) : Nat → Int
  | 0 => 0
  | j + 1 => bigMax (mostTo l cuts j) (partOf l cuts j).sum
noncomputable def maxPart (l cuts : List Int) : Int := if cutsOk l.length cuts = true ∧ wOk l = true then mostTo l cuts (cuts.length - 1) else -1
theorem asc_le {l : List Int} (h : Asc l) : ∀ (d i : Nat), i + d < l.length → rd l (i : Int) ≤ rd l ((i + d : Nat) : Int) := by
  intro d
  induction d with
  | zero => intro i h1; exact Int.le_refl _
  | succ d ih =>
    intro i h1
    have h2 := ih i (by omega)
    have h3 := h (i + d + 1) (by omega) (by omega)
    simp only [Nat.add_sub_cancel] at h3
    rw [show i + (d + 1) = i + d + 1 by omega]
    omega
structure CutAt (cuts : List Int) (N : Nat) (j : Nat) : Prop where mk :: (out : 0 ≤ rd cuts (j : Int) ∧ rd cuts (j : Int) ≤ rd cuts ((j + 1 : Nat) : Int) ∧ rd cuts ((j + 1 : Nat) : Int) ≤ N)
theorem cut_at {cuts : List Int} {N : Nat} (h : cutsOk N cuts = true) (j : Nat) (hj : j + 1 < cuts.length) : CutAt cuts N j := ⟨by
  obtain ⟨h1, h2, h3, h4⟩ := cutsOk_facts h
  have a := asc_le h4 j 0 (by omega)
  rw [Nat.zero_add] at a
  have a0 : rd cuts ((0 : Nat) : Int) = 0 := h2
  have b := asc_le h4 1 j (by omega)
  have c := asc_le h4 (cuts.length - 1 - (j + 1)) (j + 1) (by omega)
  rw [show j + 1 + (cuts.length - 1 - (j + 1)) = cuts.length - 1 by omega, h3] at c
  omega⟩
theorem part_sum {l cuts : List Int} (h : wOk l = true) (j : Nat) : SumOk (partOf l cuts j) ∧ 0 ≤ (partOf l cuts j).sum ∧ (partOf l cuts j).sum ≤ 1000000000 := by
  have hw := wOk_iff.1 h
  have hm : ∀ x ∈ partOf l cuts j, 0 ≤ x ∧ x ≤ 1000000 := fun x hx => hw.2 x (List.mem_of_mem_take (List.mem_of_mem_drop hx))
  have hlen : (partOf l cuts j).length ≤ 1000 := by unfold partOf; simp; omega
  have hs := sum_bound (partOf l cuts j) 0 1000000 hm
  exact ⟨sumOk_of _ 1000000 (by omega) (fun x hx => by have := hm x hx; omega) (by omega), by omega, by omega⟩
theorem mostTo_range {l cuts : List Int} (h : wOk l = true) : ∀ j, 0 ≤ mostTo l cuts j ∧ mostTo l cuts j ≤ 1000000000
  | 0 => by simp [mostTo]
  | j + 1 => by
    have h1 := mostTo_range (cuts := cuts) h j
    have h2 := part_sum (cuts := cuts) h j
    unfold mostTo bigMax
    split <;> omega
set_option maxRecDepth 100000 in
set_option maxHeartbeats 4000000 in
theorem impl_MaxPart (A : Option Addr) (n c : Nat) (l : List Int) (B : Option Addr) (m d : Nat) (cuts : List Int) (w : World) (r : RI w A n l) (q : RI w B m cuts) (hcap : n ≤ c) :
    Calls Try.prog 13 #[.slice A n c, .slice B m d] w fun e w' => e = .returned (.int .i64 (maxPart l cuts)) ∧ Drawn0 w w' := by
  have hl := r.len
  have hl2 := q.len
  have hm := r.max
  cases hc : cutsOk (n : Int) cuts with
  | false =>
    rw [show maxPart l cuts = -1 by simp [maxPart, hl, hc]]
    have HC := hid hc; clear hc hl hl2
    go_enter Try.func13, Try.ntmps13
    go_wp2_with (go_at_call 35; refine (impl_CutsOk _ _ _ _ _ _ q).mono ?_; rintro e w1 ⟨rfl, d1⟩; rw [HC.out])
    go_ret
    exact ⟨rfl, d1⟩
  | true =>
    cases hw : wOk l with
    | false =>
      rw [show maxPart l cuts = -1 by simp [maxPart, hw]]
      have HC := hid hc; clear hc hl hl2
      have HW := hid hw; clear hw
      go_enter Try.func13, Try.ntmps13
      go_wp2_with (first | (go_at_call 35; refine (impl_CutsOk _ _ _ _ _ _ q).mono ?_; rintro e w1 ⟨rfl, d1⟩; rw [HC.out]) | (go_at_call 33; refine (impl_areWeights _ _ _ _ _ (r.dr d1)).mono ?_; rintro e w2 ⟨rfl, d2⟩; rw [HW.out]))
      go_ret
      exact ⟨rfl, Drawn0.trans' d1 d2⟩
    | true =>
      rw [show maxPart l cuts = mostTo l cuts (m - 1) by simp [maxPart, hl, hl2, hc, hw]]
      have hcu := fun j hj => cut_at hc j hj
      have hps := fun j => part_sum (cuts := cuts) hw j
      have hmr := fun j => mostTo_range (cuts := cuts) hw j
      obtain ⟨⟨f1, f2⟩, _, _, _⟩ := cutsOk_facts hc
      rw [hl2] at f1 f2
      rw [hl2] at hcu
      have HC := hid hc; clear hc
      have HW := hid hw; clear hw
      have HL := hid hl; clear hl
      have HL2 := hid hl2; clear hl2
      have HCU := hid hcu; clear hcu
      have HPS := hid hps; clear hps
      have HMR := hid hmr; clear hmr
      go_enter Try.func13, Try.ntmps13
      go_wp2_with (first | (go_at_call 35; refine (impl_CutsOk _ _ _ _ _ _ q).mono ?_; rintro e w1 ⟨rfl, d1⟩; rw [HC.out]) | (go_at_call 33; refine (impl_areWeights _ _ _ _ _ (r.dr d1)).mono ?_; rintro e w2 ⟨rfl, d2⟩; rw [HW.out]))
      have D := hid (Drawn0.trans' d1 d2)
      clear d1 d2
      go_loopw [5, 20] (fun v i wr => ∃ j : Nat, j ≤ m - 1 ∧ i = .int .i64 j ∧ v = .int .i64 (mostTo l cuts j) ∧ Hid (Drawn0 w wr)) (fun _ i _ => m - (intOf i).toNat)
      case atStart => exact ⟨0, by omega, rfl, rfl, D⟩
      case round =>
        obtain ⟨j, hj, rfl, rfl, hD⟩ := hrel
        by_cases hlt : j < m - 1
        · obtain ⟨g0, g1, g2⟩ := (HCU.out j (by omega)).out
          obtain ⟨A', n', c', hcut, hri, _⟩ := RI.mid A n c l HL.out hcap (rd cuts (j : Int)) (rd cuts ((j + 1 : Nat) : Int)) g0 g1 g2
          obtain ⟨ae, rfl, hx0⟩ := (q.dr hD.out).nat j (by omega)
          obtain ⟨_, e, hx1⟩ := (q.dr hD.out).nat (j + 1) (by omega)
          obtain rfl := Option.some.inj e
          clear e
          rw [add_pos _ _ (by omega)] at hx1
          push_cast at hx1 hcut
          obtain ⟨p1, p2, p3⟩ := HPS.out j
          have hmr := HMR.out j
          have hst : Hid (mostTo l cuts (j + 1) = bigMax (mostTo l cuts j) (partOf l cuts j).sum) := hid rfl
          have hrr := hri _ r
          change RI w A' n' (partOf l cuts j) at hrr
          clear hri g0 g1 g2
          generalize (rd cuts (j : Int)) = a0 at *
          generalize (rd cuts ((j : Int) + 1)) = a1 at *
          generalize mostTo l cuts j = s at *
          generalize partOf l cuts j = L at *
          go_wp2
          go_quiet ((go_at_call 36; exact Calls.quiet_of_same ((impl_sum _ _ _ _ _ (hrr.dr (by first | exact hD.out | exact hD.out.step _)) p1).mono fun e w' h => ⟨h.1, h.2.symm⟩)))
          go_wp2
          go_roundw
          case rel => exact ⟨j + 1, by omega, by go_num, by rw [hst.out], hid (hD.out.step _)⟩
          case measure => simp [intOf]; omega
        · obtain rfl : j = m - 1 := by omega
          go_wp2
          go_ret
          exact ⟨rfl, hD.out⟩
end Go.Proofs.Ytaemkneppphkmaa.U
set_option linter.unusedVariables false
set_option linter.unusedSimpArgs false
namespace Go.Proofs.Ytaemkneppphkmaa.U
open Go.RowKit Go.Lib Go.Proofs.YtaemkneppphkmaaW.PrintWords

attribute [local go_sem] go_max2 go_min2
/-- the cuts so far, and the sum of the part so far, when k weights have been taken -/
def cutTo (l : List Int) (most : Int) : Nat → List Int × Int
  | 0 => ([0], 0)
  | k + 1 => if most < (cutTo l most k).2 + rd l (k : Int) then ((cutTo l most k).1 ++ [(k : Int)], rd l (k : Int)) else ((cutTo l most k).1, (cutTo l most k).2 + rd l (k : Int))
def cutsL (l : List Int) (most : Int) : List Int := (cutTo l most l.length).1 ++ [(l.length : Int)]
theorem cutTo_over {l : List Int} {most : Int} {k : Nat} (h : most < (cutTo l most k).2 + rd l (k : Int)) : cutTo l most (k + 1) = ((cutTo l most k).1 ++ [(k : Int)], rd l (k : Int)) := by rw [cutTo, if_pos h]
theorem cutTo_fits {l : List Int} {most : Int} {k : Nat} (h : ¬ most < (cutTo l most k).2 + rd l (k : Int)) : cutTo l most (k + 1) = ((cutTo l most k).1, (cutTo l most k).2 + rd l (k : Int)) := by rw [cutTo, if_neg h]
theorem cutTo_len (l : List Int) (most : Int) : ∀ k, 1 ≤ (cutTo l most k).1.length ∧ (cutTo l most k).1.length ≤ k + 1
  | 0 => by simp [cutTo]
  | k + 1 => by
    have := cutTo_len l most k
    unfold cutTo
    split <;> simp <;> omega
theorem wOk_at {l : List Int} (h : wOk l = true) (k : Nat) (hk : k < l.length) : 0 ≤ rd l (k : Int) ∧ rd l (k : Int) ≤ 1000000 := by
  rw [rd_nat, List.getD_eq_getElem?_getD, List.getElem?_eq_getElem hk]
  exact (wOk_iff.1 h).2 _ (List.getElem_mem hk)
theorem cutTo_sum {l : List Int} {most : Int} (h : wOk l = true) : ∀ k, k ≤ l.length → 0 ≤ (cutTo l most k).2 ∧ (cutTo l most k).2 ≤ 1000000 * k
  | 0, _ => by simp [cutTo]
  | k + 1, hk => by
    have h1 := cutTo_sum (most := most) h k (by omega)
    have h2 := wOk_at h k (by omega)
    unfold cutTo
    split <;> simp <;> omega
/-- all weights fit into a part -/
def fits (l : List Int) (most : Int) : Bool := l.all (fun x => decide (x ≤ most))
theorem fits_yes (l : List Int) (most : Int) (n : Nat) (hn : l.length = n) (h : ∀ j, j < n → rd l (j : Int) ≤ most) : fits l most = true := all_at l _ n hn (fun j hj => decide_eq_true (h j hj))
theorem fits_no (l : List Int) (most : Int) (k : Nat) (hk : k < l.length) (h : most < rd l (k : Int)) : fits l most = false := not_all_at l (fun x => decide (x ≤ most)) k hk (decide_eq_false (by omega))
theorem fits_at {l : List Int} {most : Int} (h : fits l most = true) (k : Nat) (hk : k < l.length) : rd l (k : Int) ≤ most := by
  rcases Int.lt_or_le most (rd l (k : Int)) with h1 | h1
  · rw [fits_no l most k hk h1] at h; cases h
  · exact h1
def fewest (l : List Int) (most : Int) : Int := if wOk l = true then (if l.length = 0 then 0 else if fits l most = true then ((cutsL l most).length : Int) - 1 else -1) else -1
set_option maxRecDepth 100000 in
set_option maxHeartbeats 4000000 in
theorem impl_fill (A : Option Addr) (n c : Nat) (l : List Int) (most : Int) (w : World) (r : RI w A n l) (hw : wOk l = true) (hmost : -9223372036854775808 ≤ most ∧ most ≤ 9223372036854775807) :
    Calls Try.prog 34 #[.slice A n c, .int .i64 most] w fun e w' =>
      ((fits l most = true ∧ ∃ v, e = .returned (.tuple #[v, .bool true]) ∧ OI w' w.heap.size v (cutsL l most).length (cutsL l most)) ∨ (fits l most = false ∧ e = .returned (.tuple #[.slice none 0 0, .bool false]))) ∧ Bw w w' := by
  have hl := hid r.len
  have hlen : n ≤ 1000 := by have := (wOk_iff.1 hw).1; rw [hl.out] at this; exact this
  have HW := hid hw; clear hw
  have o0 : OI (w.alloc (.cells #[.int .i64 0] 3)) w.heap.size (.slice (some ⟨w.heap.size, 0, none⟩) 1 1) (cutTo l most 0).1.length (cutTo l most 0).1 := ⟨own_lit w w.heap.size 3 .i64 [0] (Nat.le_refl _) (by simp)⟩
  have b0 : Bw w (w.alloc (.cells #[.int .i64 0] 3)) := (Bw.refl w).alloc _
  obtain ⟨W0, hW0⟩ : ∃ W0 : World, W0 = w.alloc (.cells #[.int .i64 0] 3) := ⟨_, rfl⟩
  rw [← hW0] at o0 b0
  go_enter Try.func34, Try.ntmps34
  go_wp2
  rw [← hW0]
  clear hW0
  go_loopw [6, 7, 13] (fun v s i wr => ∃ k : Nat, k ≤ n ∧ i = .int .i64 k ∧ s = .int .i64 (cutTo l most k).2 ∧ OI wr w.heap.size v (cutTo l most k).1.length (cutTo l most k).1 ∧ Bw w wr ∧ Hid (∀ j, j < k → rd l (j : Int) ≤ most)) (fun _ _ i _ => n - (intOf i).toNat)
  case atStart => exact ⟨0, by omega, rfl, rfl, o0, b0, hid (fun j hj => by omega)⟩
  case round =>
    obtain ⟨k, hk, rfl, rfl, hO, hB, hE⟩ := hrel
    have hs0 := cutTo_sum (most := most) HW.out k (by rw [hl.out]; exact hk)
    have hcl := cutTo_len l most k
    by_cases hlt : k < n
    · obtain ⟨ad, rfl, hc⟩ := (r.to hB).nat k hlt
      have hx := wOk_at HW.out k (by rw [hl.out]; exact hlt)
      by_cases hov : most < rd l (k : Int)
      · have hno := hid (fits_no l most k (by rw [hl.out]; exact hlt) hov)
        go_wp2
        go_ret2
        exact ⟨.inr ⟨hno.out, rfl⟩, hB⟩
      · have hE2 : Hid (∀ j, j < k + 1 → rd l (j : Int) ≤ most) := hid (fun j hj => by
          by_cases e : j = k
          · rw [e]; omega
          · exact hE.out j (by omega))
        by_cases hcut : most < (cutTo l most k).2 + rd l (k : Int)
        · have hnext := hid (cutTo_over hcut)
          generalize (cutTo l most k).2 = s at *
          generalize (cutTo l most k).1 = L at *
          generalize rd l (k : Int) = x at *
          obtain ⟨hs1, hs2⟩ := hs0
          obtain ⟨hx1, hx2⟩ := hx
          obtain ⟨hc1, hc2⟩ := hcl
          go_wp2_with (at_builtin; (refine print_append_num (w0 := w) w.heap.size rfl _ _ 28 3 .i64 8 rfl Try.underlying28 info_int (by omega) u6 L (k : Int) rfl rfl hO.out hB.out hB.size (by omega) ?_); intro v1 w2 hown1 hB1 hg1 _)
          go_roundw
          case rel => exact ⟨k + 1, by omega, by go_num, by rw [hnext.out], by rw [hnext.out]; exact OI.app hown1, ⟨hB1⟩, hE2⟩
          case measure => simp [intOf]; omega
        · have hnext := hid (cutTo_fits hcut)
          generalize (cutTo l most k).2 = s at *
          generalize (cutTo l most k).1 = L at *
          generalize rd l (k : Int) = x at *
          obtain ⟨hs1, hs2⟩ := hs0
          obtain ⟨hx1, hx2⟩ := hx
          go_wp2
          go_roundw
          case rel => exact ⟨k + 1, by omega, by go_num, by rw [hnext.out], by rw [hnext.out]; exact hO, hB, hE2⟩
          case measure => simp [intOf]; omega
    · obtain rfl : k = n := by omega
      have hyes := hid (fits_yes l most k hl.out hE.out)
      have hcs : Hid (cutsL l most = (cutTo l most k).1 ++ [(k : Int)]) := hid (by rw [cutsL, hl.out])
      generalize (cutTo l most k).1 = L at *
      obtain ⟨hc1, hc2⟩ := hcl
      go_wp2_with (at_builtin; refine print_append_num (w0 := w) w.heap.size rfl _ _ 28 3 .i64 8 rfl Try.underlying28 info_int (by omega) u6 L (k : Int) rfl rfl hO.out hB.out hB.size (by omega) ?_; intro v1 w2 hown1 hB1 hg1 _)
      go_ret2
      exact ⟨.inl ⟨hyes.out, _, rfl, by rw [hcs.out]; exact OI.app hown1⟩, ⟨hB1⟩⟩
set_option maxHeartbeats 4000000 in
theorem impl_FewestParts (A : Option Addr) (n c : Nat) (l : List Int) (most : Int) (w : World) (r : RI w A n l) (hmost : -9223372036854775808 ≤ most ∧ most ≤ 9223372036854775807) :
    Calls Try.prog 12 #[.slice A n c, .int .i64 most] w fun e w' => e = .returned (.int .i64 (fewest l most)) ∧ Bw w w' := by
  have hl := r.len
  cases hw : wOk l with
  | false =>
    rw [show fewest l most = -1 by simp [fewest, hw]]
    have HW := hid hw; clear hw hl hmost
    go_enter Try.func12, Try.ntmps12
    go_wp2_with (go_at_call 33; refine (impl_areWeights _ _ _ _ _ r).mono ?_; rintro e w1 ⟨rfl, d1⟩; rw [HW.out])
    go_ret
    exact ⟨rfl, Bw.drawn d1⟩
  | true =>
    have HW := hid hw
    have hF : fewest l most = (if n = 0 then 0 else if fits l most = true then ((cutsL l most).length : Int) - 1 else -1) := by simp [fewest, hw, hl]
    have HR := hid hF
    have hlen : n ≤ 1000 := by have := (wOk_iff.1 hw).1; omega
    have hcl : (cutsL l most).length ≤ 1002 := by have := (cutTo_len l most l.length).2; simp [cutsL]; omega
    have hn0 := hid (show n = 0 → fits l most = true from fun h => fits_yes l most n hl (fun j hj => by omega))
    generalize fewest l most = R at *
    clear hF hw hl
    go_enter Try.func12, Try.ntmps12
    go_wp2_with (go_at_call 33; refine (impl_areWeights _ _ _ _ _ r).mono ?_; rintro e w1 ⟨rfl, d1⟩; rw [HW.out])
    go_wp2_with fail
    refine (impl_fill A n c l most _ (r.dr d1) HW.out hmost).mono ?_
    have b1 := Bw.drawn d1
    clear hmost
    rintro e w2 ⟨(⟨hfit, v, rfl, o⟩ | ⟨hfit, rfl⟩), b2⟩
    · replace b1 := b1.trans b2
      clear b2 d1
      obtain ⟨A', c', rfl, _⟩ := o.reads
      by_cases h0 : n = 0
      · have HQ : Hid (R = 0) := hid (by rw [HR.out, if_pos h0])
        have t0 : ((n : Int) == 0) = true := beq_iff_eq.2 (by omega)
        clear h0
        have HFT := hid hfit; clear hfit
        go_wp2
        go_ret
        exact ⟨ret_int HQ.out.symm, b1⟩
      · have HQ : Hid (R = ((cutsL l most).length : Int) - 1) := hid (by rw [HR.out, if_neg h0, hfit, if_pos rfl])
        have t0 : ((n : Int) == 0) = false := beq_eq_false_iff_ne.2 (by omega)
        clear h0
        have HFT := hid hfit; clear hfit
        clear HR
        generalize (cutsL l most).length = L at *
        go_wp2
        go_ret
        exact ⟨ret_int HQ.out.symm, b1⟩
    · replace b1 := b1.trans b2
      clear b2 d1
      have h0 : n ≠ 0 := fun e => by have := hn0.out e; rw [this] at hfit; cases hfit
      have HQ : Hid (R = -1) := hid (by rw [HR.out, if_neg h0, hfit, if_neg (by decide)])
      have HFT := hid hfit; clear hfit h0
      go_wp2
      go_ret
      exact ⟨ret_int HQ.out.symm, b1⟩
/-- the greatest of the first k weights, and 0 -/
def topTo (l : List Int) : Nat → Int
  | 0 => 0
  | k + 1 => bigMax (topTo l k) (rd l (k : Int))
theorem topTo_ge (l : List Int) : ∀ (k j : Nat), j < k → rd l (j : Int) ≤ topTo l k
  | k + 1, j, h => by
    rw [topTo, bigMax_max]
    by_cases e : j = k
    · rw [e]; omega
    · have := topTo_ge l k j (by omega); omega
theorem topTo_or (l : List Int) : ∀ (k : Nat), topTo l k = 0 ∨ ∃ j, j < k ∧ topTo l k = rd l (j : Int)
  | 0 => .inl rfl
  | k + 1 => by
    rw [topTo, bigMax]
    split
    · exact .inr ⟨k, by omega, rfl⟩
    · rcases topTo_or l k with h | ⟨j, hj, h⟩
      · exact .inl h
      · exact .inr ⟨j, by omega, h⟩
theorem topTo_nn (l : List Int) : ∀ k, 0 ≤ topTo l k
  | 0 => by simp [topTo]
  | k + 1 => by have := topTo_nn l k; rw [topTo, bigMax_max]; omega
theorem top_fits (l : List Int) (most : Int) (n : Nat) (hl : l.length = n) (hw : wOk l = true) (h0 : n ≠ 0) : decide (most < topTo l n) = !fits l most := by
  by_cases h : most < topTo l n
  · rw [decide_eq_true h]
    rcases topTo_or l n with e | ⟨j, hj, e⟩
    · have := wOk_at hw 0 (by omega)
      rw [fits_no l most 0 (by omega) (by omega)]; rfl
    · rw [fits_no l most j (by omega) (by omega)]; rfl
  · rw [decide_eq_false h, fits_yes l most n hl (fun j hj => by have := topTo_ge l n j hj; omega)]; rfl
end Go.Proofs.Ytaemkneppphkmaa.U
set_option linter.unusedVariables false
set_option linter.unusedSimpArgs false
namespace Go.Proofs.Ytaemkneppphkmaa.U
open Go.RowKit Go.Lib Go.Proofs.YtaemkneppphkmaaW.PrintWords

def psum (l : List Int) (k : Nat) : Int := (l.take k).sum
theorem psum_zero (l : List Int) : psum l 0 = 0 := by simp [psum]
theorem psum_succ {l : List Int} {k : Nat} (hk : k < l.length) : psum l (k + 1) = psum l k + rd l (k : Int) := sum_snoc l k hk
theorem psum_add {l : List Int} (hw : wOk l = true) : ∀ (d k : Nat), k + d ≤ l.length → psum l k ≤ psum l (k + d)
  | 0, k, _ => Int.le_refl _
  | d + 1, k, h => by
    have h1 := psum_add hw d k (by omega)
    have h2 := psum_succ (l := l) (k := k + d) (by omega)
    have h3 := wOk_at hw (k + d) (by omega)
    rw [show k + (d + 1) = k + d + 1 by omega]
    omega
theorem psum_mono {l : List Int} (hw : wOk l = true) {a b : Nat} (h : a ≤ b) (hb : b ≤ l.length) : psum l a ≤ psum l b := by
  have := psum_add hw (b - a) a (by omega)
  rwa [show a + (b - a) = b by omega] at this
theorem part_psum (l cuts : List Int) (j : Nat) (h1 : rd cuts (j : Int) ≤ rd cuts ((j + 1 : Nat) : Int)) : (partOf l cuts j).sum = psum l (rd cuts ((j + 1 : Nat) : Int)).toNat - psum l (rd cuts (j : Int)).toNat := by
  unfold partOf psum
  generalize hb : (rd cuts ((j + 1 : Nat) : Int)).toNat = b
  generalize ha : (rd cuts (j : Int)).toNat = a
  have hab : a ≤ b := by omega
  have h := congrArg List.sum (List.take_append_drop a (l.take b))
  rw [List.sum_append, List.take_take, Nat.min_eq_left hab] at h
  omega
theorem rdl_lt (l m : List Int) (i : Nat) (h : i < l.length) : rd (l ++ m) (i : Int) = rd l (i : Int) := by
  rw [rd_nat, rd_nat, List.getD_eq_getElem?_getD, List.getD_eq_getElem?_getD, List.getElem?_append_left h]
theorem rdl_eq (l : List Int) (x : Int) : rd (l ++ [x]) (l.length : Int) = x := by
  rw [rd_nat, List.getD_eq_getElem?_getD]
  simp
/-- cuts from 0 to e, of which no part weighs more than m -/
structure Good (l : List Int) (m : Int) (C : List Int) (e : Nat) : Prop where
  pos : 1 ≤ C.length
  first : rd C ((0 : Nat) : Int) = 0
  last : rd C ((C.length - 1 : Nat) : Int) = e
  step : ∀ i, i + 1 < C.length → 0 ≤ rd C (i : Int) ∧ rd C (i : Int) ≤ rd C ((i + 1 : Nat) : Int) ∧ psum l (rd C ((i + 1 : Nat) : Int)).toNat - psum l (rd C (i : Int)).toNat ≤ m
theorem Good.app {l : List Int} {m : Int} {C : List Int} {e e' : Nat} (h : Good l m C e) (hle : e ≤ e') (hm : psum l e' - psum l e ≤ m) : Good l m (C ++ [(e' : Int)]) e' where
  pos := by simp
  first := by rw [rdl_lt _ _ 0 h.pos, h.first]
  last := by rw [List.length_append, List.length_singleton, Nat.add_sub_cancel, rdl_eq]
  step := fun i hi => by
    rw [List.length_append, List.length_singleton] at hi
    by_cases h1 : i + 1 < C.length
    · rw [rdl_lt _ _ i (by omega), rdl_lt _ _ (i + 1) h1]
      exact h.step i h1
    · have e1 : i + 1 = C.length := by omega
      have hl := h.last
      rw [← e1, Nat.add_sub_cancel] at hl
      rw [rdl_lt _ _ i (by omega), e1, rdl_eq, hl]
      refine ⟨by omega, by omega, ?_⟩
      rw [Int.toNat_natCast, Int.toNat_natCast]
      exact hm
theorem Good.up {l : List Int} {m m' : Int} {C : List Int} {e : Nat} (h : Good l m C e) (hm : m ≤ m') : Good l m' C e := ⟨h.pos, h.first, h.last, fun i hi => by have := h.step i hi; omega⟩
theorem Good.le {l : List Int} {m : Int} {C : List Int} {e : Nat} (h : Good l m C e) : ∀ (d i : Nat), i + d = C.length - 1 → 0 ≤ rd C (i : Int) ∧ rd C (i : Int) ≤ e
  | 0, i, hi => by
    have := h.last
    rw [← hi, Nat.add_zero] at this
    omega
  | d + 1, i, hi => by
    have h1 := h.step i (by omega)
    have h2 := h.le d (i + 1) (by omega)
    omega
theorem Good.at {l : List Int} {m : Int} {C : List Int} {e : Nat} (h : Good l m C e) (i : Nat) (hi : i < C.length) : 0 ≤ rd C (i : Int) ∧ rd C (i : Int) ≤ e := h.le (C.length - 1 - i) i (by omega)
theorem cut_good {l : List Int} {m : Int} (hw : wOk l = true) (h0 : 0 ≤ m) (hf : fits l m = true) : ∀ k, k ≤ l.length → ∃ e, e ≤ k ∧ Good l m (cutTo l m k).1 e ∧ psum l k - psum l e = (cutTo l m k).2 ∧ (cutTo l m k).2 ≤ m
  | 0, _ => ⟨0, Nat.le_refl _, ⟨by simp [cutTo], by simp [cutTo, rd], by simp [cutTo, rd], fun i hi => by simp [cutTo] at hi⟩, by simp [cutTo], by simp only [cutTo]; omega⟩
  | k + 1, hk => by
    obtain ⟨e, he, hg, hs, hm⟩ := cut_good hw h0 hf k (by omega)
    have hx := fits_at hf k (by omega)
    have hp := psum_succ (l := l) (k := k) (by omega)
    by_cases hc : m < (cutTo l m k).2 + rd l (k : Int)
    · rw [cutTo_over hc]
      exact ⟨k, by omega, hg.app he (by omega), by show psum l (k + 1) - psum l k = rd l (k : Int); omega, hx⟩
    · rw [cutTo_fits hc]
      exact ⟨e, by omega, hg, by show psum l (k + 1) - psum l e = (cutTo l m k).2 + rd l (k : Int); omega, by show (cutTo l m k).2 + rd l (k : Int) ≤ m; omega⟩
theorem cutsL_good {l : List Int} {m : Int} (hw : wOk l = true) (h0 : 0 ≤ m) (hf : fits l m = true) : Good l m (cutsL l m) l.length := by
  obtain ⟨e, he, hg, hs, hm⟩ := cut_good hw h0 hf l.length (Nat.le_refl _)
  exact hg.app he (by omega)
theorem Good.pad {l : List Int} {m : Int} {C : List Int} {e : Nat} (h : Good l m C e) (h0 : 0 ≤ m) : ∀ t, Good l m (C ++ List.replicate t (e : Int)) e
  | 0 => by simpa using h
  | t + 1 => by
    rw [List.replicate_succ', ← List.append_assoc]
    exact (h.pad h0 t).app (Nat.le_refl _) (by omega)
/-- greedy is ahead of the cuts C in their part j, at place k -/
def Ahead (l : List Int) (M : Int) (C : List Int) (j k : Nat) : Prop := (cutTo l M k).1.length ≤ j ∨ ((cutTo l M k).1.length = j + 1 ∧ (cutTo l M k).2 ≤ psum l k - psum l (rd C (j : Int)).toNat)
theorem ahead_in {l : List Int} {M : Int} {C : List Int} (hw : wOk l = true) (hg : Good l M C l.length) (j : Nat) (hj : j + 1 < C.length) (h : Ahead l M C j (rd C (j : Int)).toNat) :
    ∀ d, (rd C (j : Int)).toNat + d ≤ (rd C ((j + 1 : Nat) : Int)).toNat → Ahead l M C j ((rd C (j : Int)).toNat + d)
  | 0, _ => h
  | d + 1, hd => by
    have ih := ahead_in hw hg j hj h d (by omega)
    have h1 := hg.step j hj
    have h2 := hg.at (j + 1) hj
    unfold Ahead at ih ⊢
    generalize ha : (rd C (j : Int)).toNat = a at *
    rw [show a + (d + 1) = a + d + 1 by omega]
    have hk : a + d < l.length := by omega
    have hx := wOk_at hw (a + d) hk
    have hp := psum_succ hk
    have hp1 := psum_mono hw (a := a) (b := a + d) (by omega) (by omega)
    have hp2 := psum_mono hw (a := a + d + 1) (b := (rd C ((j + 1 : Nat) : Int)).toNat) (by omega) (by omega)
    by_cases hc : M < (cutTo l M (a + d)).2 + rd l ((a + d : Nat) : Int)
    · rw [cutTo_over hc]
      rcases ih with ih | ⟨ih1, ih2⟩
      · by_cases e : (cutTo l M (a + d)).1.length = j
        · right
          refine ⟨by simp [e], ?_⟩
          show rd l ((a + d : Nat) : Int) ≤ _
          omega
        · left
          simp
          omega
      · omega
    · rw [cutTo_fits hc]
      rcases ih with ih | ⟨ih1, ih2⟩
      · exact .inl ih
      · right
        refine ⟨ih1, ?_⟩
        show (cutTo l M (a + d)).2 + rd l ((a + d : Nat) : Int) ≤ _
        omega
theorem ahead_cut {l : List Int} {M : Int} {C : List Int} (hw : wOk l = true) (hg : Good l M C l.length) : ∀ j, j < C.length → Ahead l M C j (rd C (j : Int)).toNat ∧ (1 ≤ j → (cutTo l M (rd C (j : Int)).toNat).1.length ≤ j)
  | 0, _ => by
    refine ⟨?_, by omega⟩
    unfold Ahead
    rw [hg.first]
    right
    simp [cutTo]
  | j + 1, hj => by
    have h1 := hg.step j hj
    have ih := ahead_in hw hg j hj (ahead_cut hw hg j (by omega)).1 ((rd C ((j + 1 : Nat) : Int)).toNat - (rd C (j : Int)).toNat) (by omega)
    rw [show (rd C (j : Int)).toNat + ((rd C ((j + 1 : Nat) : Int)).toNat - (rd C (j : Int)).toNat) = (rd C ((j + 1 : Nat) : Int)).toNat by omega] at ih
    have h2 : (cutTo l M (rd C ((j + 1 : Nat) : Int)).toNat).1.length ≤ j + 1 := by
      unfold Ahead at ih
      omega
    exact ⟨.inl h2, fun _ => h2⟩
theorem good_fits {l : List Int} {M : Int} {C : List Int} (hw : wOk l = true) (hg : Good l M C l.length) : ∀ j, j < C.length → ∀ k, k < (rd C (j : Int)).toNat → rd l (k : Int) ≤ M
  | 0, _, k, hk => by rw [hg.first] at hk; simp at hk
  | j + 1, hj, k, hk => by
    have h1 := hg.step j hj
    have h2 := hg.at (j + 1) hj
    by_cases hc : k < (rd C (j : Int)).toNat
    · exact good_fits hw hg j (by omega) k hc
    · have hp := psum_succ (l := l) (k := k) (by omega)
      have hp1 := psum_mono hw (a := (rd C (j : Int)).toNat) (b := k) (by omega) (by omega)
      have hp2 := psum_mono hw (a := k + 1) (b := (rd C ((j + 1 : Nat) : Int)).toNat) (by omega) (by omega)
      omega
/-- m is enough for k parts -/
def Enough (l : List Int) (m : Int) (k : Nat) : Prop := fits l m = true ∧ (cutsL l m).length ≤ k + 1
theorem good_enough {l : List Int} {M : Int} {C : List Int} (hw : wOk l = true) (hn : l.length ≠ 0) (hg : Good l M C l.length) (k : Nat) (hk : C.length ≤ k + 1) : Enough l M k := by
  have hlast := hg.last
  have hp := hg.pos
  have h2 : 2 ≤ C.length := by
    rcases Nat.lt_or_ge C.length 2 with h | h
    · have e : C.length - 1 = 0 := by omega
      rw [e, hg.first] at hlast
      omega
    · exact h
  refine ⟨fits_yes l M l.length rfl (fun j hj => good_fits hw hg (C.length - 1) (by omega) j (by rw [hlast]; simpa using hj)), ?_⟩
  have := (ahead_cut hw hg (C.length - 1) (by omega)).2 (by omega)
  rw [hlast, Int.toNat_natCast] at this
  unfold cutsL
  simp
  omega
theorem fits_nn {l : List Int} {m : Int} (hw : wOk l = true) (hn : l.length ≠ 0) (h : fits l m = true) : 0 ≤ m := by
  have h1 := fits_at h 0 (by omega)
  have h2 := wOk_at hw 0 (by omega)
  omega
theorem Enough.up {l : List Int} {x y : Int} {k : Nat} (hw : wOk l = true) (hn : l.length ≠ 0) (h : Enough l x k) (hxy : x ≤ y) : Enough l y k :=
  good_enough hw hn ((cutsL_good hw (fits_nn hw hn h.1) h.1).up hxy) k h.2
/-- the least that is enough for k parts -/
structure IsBest (l : List Int) (k : Nat) (m : Int) : Prop where
  enough : Enough l m k
  least : ∀ x, x < m → ¬ Enough l x k
theorem IsBest.same {l : List Int} {k : Nat} {m m' : Int} (h : IsBest l k m) (h' : IsBest l k m') : m = m' := by
  rcases Int.lt_trichotomy m m' with h1 | h1 | h1
  · exact absurd h.enough (h'.least m h1)
  · exact h1
  · exact absurd h'.enough (h.least m' h1)
noncomputable def bestOf (l : List Int) (k : Nat) : Int := @dite _ (∃ m, IsBest l k m) (Classical.propDecidable _) (fun h => Classical.choose h) (fun _ => 0)
theorem IsBest.eq {l : List Int} {k : Nat} {m : Int} (h : IsBest l k m) : bestOf l k = m := by
  have hx : ∃ m, IsBest l k m := ⟨m, h⟩
  unfold bestOf
  rw [dif_pos hx]
  exact (Classical.choose_spec hx).same h
theorem all_enough {l : List Int} (hw : wOk l = true) (hn : l.length ≠ 0) (k : Nat) (hk : 1 ≤ k) : Enough l (psum l l.length) k := by
  have h0 : Good l (psum l l.length) [0] 0 := ⟨by simp, by simp [rd], by simp [rd], fun i hi => by simp at hi⟩
  have h1 := h0.app (e' := l.length) (Nat.zero_le _) (by rw [psum_zero]; omega)
  exact good_enough hw hn h1 k (by simp; omega)
theorem top_least {l : List Int} (hw : wOk l = true) (hn : l.length ≠ 0) (k : Nat) (x : Int) (hx : x < topTo l l.length) : ¬ Enough l x k := fun h => by
  have h1 := top_fits l x l.length rfl hw hn
  rw [h.1, decide_eq_true hx] at h1
  cases h1
theorem top_sum {l : List Int} (hw : wOk l = true) : ∀ n, n ≤ l.length → topTo l n ≤ psum l n
  | 0, _ => by simp [topTo, psum]
  | n + 1, h => by
    have h1 := top_sum hw n (by omega)
    have h2 := psum_succ (l := l) (k := n) (by omega)
    have h3 := wOk_at hw n (by omega)
    have h4 := topTo_nn l n
    rw [topTo, bigMax_max]
    omega
/-- what the number of parts tells -/
theorem fewest_enough {l : List Int} (hw : wOk l = true) (hn : l.length ≠ 0) (m : Int) (k : Nat) : Enough l m k ↔ 0 ≤ fewest l m ∧ fewest l m ≤ k := by
  have hc : 1 ≤ (cutsL l m).length := by simp [cutsL]
  unfold Enough fewest
  rw [if_pos hw, if_neg hn]
  by_cases hf : fits l m = true
  · rw [if_pos hf]
    constructor
    · rintro ⟨_, h⟩
      omega
    · intro h
      exact ⟨hf, by omega⟩
  · rw [if_neg hf]
    constructor
    · rintro ⟨h, _⟩
      exact absurd h hf
    · omega
/-- the cuts of the best division into k parts -/
noncomputable def cutsOf (l : List Int) (k : Nat) : List Int := cutsL l (bestOf l k) ++ List.replicate (k + 1 - (cutsL l (bestOf l k)).length) (l.length : Int)
noncomputable def partL (l : List Int) (k : Int) : List Int × Int := if inR k 1 16 = true ∧ l.length ≠ 0 ∧ wOk l = true then (cutsOf l k.toNat, bestOf l k.toNat) else ([], -1)
theorem good_cuts {l : List Int} {m : Int} {C : List Int} (hg : Good l m C l.length) (h2 : 2 ≤ C.length) (h17 : C.length ≤ 17) : cutsOk l.length C = true := by
  simp only [cutsOk, Bool.and_eq_true, inR_iff, beq_iff_eq, ascB_iff]
  refine ⟨⟨⟨by omega, hg.first⟩, hg.last⟩, fun j h1 hj => ?_⟩
  have := (hg.step (j - 1) (by omega)).2.1
  rwa [show j - 1 + 1 = j by omega] at this
theorem mostTo_le {l : List Int} {m : Int} {C : List Int} {e : Nat} (hg : Good l m C e) (h0 : 0 ≤ m) : ∀ j, j ≤ C.length - 1 → mostTo l C j ≤ m
  | 0, _ => by simp only [mostTo]; exact h0
  | j + 1, h => by
    have h1 := mostTo_le hg h0 j (by omega)
    have h2 := hg.step j (by omega)
    rw [mostTo, bigMax_max, part_psum l C j h2.2.1]
    omega
theorem mostTo_ge (l C : List Int) : ∀ (n j : Nat), j < n → (partOf l C j).sum ≤ mostTo l C n
  | n + 1, j, h => by
    rw [mostTo, bigMax_max]
    by_cases e : j = n
    · rw [e]; omega
    · have := mostTo_ge l C n j (by omega)
      omega
theorem cuts_good {l C : List Int} (hc : cutsOk l.length C = true) : Good l (mostTo l C (C.length - 1)) C l.length := by
  obtain ⟨h1, h2, h3, h4⟩ := cutsOk_facts hc
  refine ⟨by omega, h2, h3, fun i hi => ?_⟩
  have h5 := (cut_at hc i hi).out
  rw [← part_psum l C i h5.2.1]
  exact ⟨h5.1, h5.2.1, mostTo_ge l C _ i (by omega)⟩
/-- no division into at most k parts has a smaller greatest part -/
theorem best_least {l C : List Int} {k : Nat} {m : Int} (hw : wOk l = true) (hn : l.length ≠ 0) (hb : IsBest l k m) (hc : cutsOk l.length C = true) (hk : C.length ≤ k + 1) : m ≤ maxPart l C := by
  have e : maxPart l C = mostTo l C (C.length - 1) := by simp [maxPart, hc, hw]
  rw [e]
  rcases Int.lt_or_le (mostTo l C (C.length - 1)) m with h | h
  · exact absurd (good_enough hw hn (cuts_good hc) k hk) (hb.least _ h)
  · exact h
theorem best_cuts {l : List Int} {k : Nat} {m : Int} (hw : wOk l = true) (hn : l.length ≠ 0) (hk : 1 ≤ k) (hk2 : k ≤ 16) (hb : IsBest l k m) :
    (cutsOf l k).length = k + 1 ∧ cutsOk l.length (cutsOf l k) = true ∧ maxPart l (cutsOf l k) = m ∧ cutsOf l k = cutsL l m ++ List.replicate (k + 1 - (cutsL l m).length) (l.length : Int) ∧ (cutsL l m).length ≤ k + 1 ∧ 1 ≤ (cutsL l m).length := by
  have h0 := fits_nn hw hn hb.enough.1
  have hg := (cutsL_good hw h0 hb.enough.1).pad h0 (k + 1 - (cutsL l m).length)
  have he : cutsOf l k = cutsL l m ++ List.replicate (k + 1 - (cutsL l m).length) (l.length : Int) := by rw [cutsOf, hb.eq]
  have hle := hb.enough.2
  have hlen : (cutsOf l k).length = k + 1 := by rw [he, List.length_append, List.length_replicate]; omega
  rw [← he] at hg
  have hc := good_cuts hg (by omega) (by omega)
  have e : maxPart l (cutsOf l k) = mostTo l (cutsOf l k) ((cutsOf l k).length - 1) := by simp [maxPart, hc, hw]
  refine ⟨hlen, hc, ?_, he, hle, by simp [cutsL]⟩
  have h1 := best_least hw hn hb hc (by omega)
  have h2 := mostTo_le hg h0 ((cutsOf l k).length - 1) (Nat.le_refl _)
  rw [e] at h1 ⊢
  omega
theorem best_of {l : List Int} {k : Nat} {m : Int} (hw : wOk l = true) (hn : l.length ≠ 0) (h : Enough l m k) (hl : ¬ Enough l (m - 1) k) : IsBest l k m :=
  ⟨h, fun x hx hx2 => hl (hx2.up hw hn (by omega))⟩
end Go.Proofs.Ytaemkneppphkmaa.U
set_option linter.unusedVariables false
set_option linter.unusedSimpArgs false
namespace Go.Proofs.Ytaemkneppphkmaa.U
open Go.RowKit Go.Lib Go.Proofs.YtaemkneppphkmaaW.PrintWords

/-- The function value g, with what it has captured, answers by p at the numbers of int, in w and in whatever world has come of it. -/
structure PredW (g : Nat) (lb : Array Value) (p : Int → Bool) (w : World) : Prop where
  mk :: (out : ∀ W (x : Nat), Bw w W → x ≤ 4611686018427387904 → Calls Try.prog g (#[.int .i64 (x : Int)] ++ lb) W fun e W' => e = .returned (.bool (p (x : Int))) ∧ Bw W W')
set_option maxHeartbeats 2000000 in
theorem Search (n : Nat) (g : Nat) (lb : Array Value) (p : Int → Bool) (w : World) (hn : n ≤ 4611686018427387904) (hp : PredW g lb p w)
    (eg : ∀ args w, (callFunc g args).run Try.prog w = .ok (.enter g args) w) :
    Calls Try.prog 86 #[.int .i64 n, .func (.func g) #[] lb] w fun e w' => (∃ i : Nat, e = .returned (.int .i64 i) ∧ i ≤ n ∧ (i < n → p (i : Int) = true) ∧ (0 < i → p ((i - 1 : Nat) : Int) = false)) ∧ Bw w w' := by
  go_enter Try.func86, Try.ntmps86
  go_wp2
  go_loopw [5, 6] (fun v5 v6 wr => ∃ i j : Nat, i ≤ j ∧ j ≤ n ∧ v5 = .int .i64 i ∧ v6 = .int .i64 j ∧ Hid ((j < n → p (j : Int) = true) ∧ (0 < i → p ((i - 1 : Nat) : Int) = false)) ∧ Bw w wr) (fun v5 v6 _ => (intOf v6).toNat - (intOf v5).toNat)
  case atStart => exact ⟨0, n, by omega, by omega, rfl, rfl, hid ⟨fun h => by omega, fun h => by omega⟩, Bw.refl _⟩
  case round =>
    obtain ⟨i, j, hij, hjn, rfl, rfl, hE, hB⟩ := hrel
    by_cases hlt : i < j
    · have t1 : decide ((i : Int) < (j : Int)) = true := decide_eq_true (by omega)
      obtain ⟨h, hh⟩ : ∃ h, h = (i + j) / 2 := ⟨_, rfl⟩
      have hh1 : i ≤ h ∧ h < j := by omega
      have hq : ((i : Int) + (j : Int)) / 2 = (h : Int) := by omega
      have HQ := hid hq
      clear hh hq
      go_wp2_with fail
      rw [HQ.out]
      refine (hp.out wr h hB (by omega)).mono ?_
      rintro e w3 ⟨rfl, b3⟩
      cases hph : p (h : Int) with
      | true =>
        have HP := hid hph
        clear hph
        go_wp2
        go_roundw
        case rel => exact ⟨i, h, hh1.1, by omega, rfl, by go_num, hid ⟨fun _ => HP.out, hE.out.2⟩, hB.trans b3⟩
        case measure => simp [intOf]; omega
      | false =>
        have HP := hid hph
        clear hph
        go_wp2
        go_roundw
        case rel => exact ⟨h + 1, j, by omega, hjn, by go_num, rfl, hid ⟨hE.out.1, fun _ => HP.out⟩, hB.trans b3⟩
        case measure => simp [intOf]; omega
    · obtain rfl : i = j := by omega
      have t1 : decide ((i : Int) < (i : Int)) = false := decide_eq_false (by omega)
      go_wp2
      go_ret
      exact ⟨⟨i, rfl, hjn, hE.out.1, hE.out.2⟩, hB⟩

/-- the closure of PartitionOf -/
theorem part_pred (w : World) (B D : Nat) (A : Option Addr) (n c : Nat) (l : List Int) (k : Int) (r : RI w A n l) (h1 : w.cell? ⟨B, 0, none⟩ = some (.slice A n c)) (h2 : w.cell? ⟨D, 0, none⟩ = some (.int .i64 k)) :
    PredW 87 #[.pointer (some ⟨B, 0, none⟩), .pointer (some ⟨D, 0, none⟩)] (fun x => inR (fewest l x) 0 k) w := ⟨fun W x b hx => by
  have hc1 : W.cell? ⟨B, 0, none⟩ = some (.slice A n c) := pw_cell_below b.out h1
  have hc2 : W.cell? ⟨D, 0, none⟩ = some (.int .i64 k) := pw_cell_below b.out h2
  replace r := r.to b
  clear h1 h2
  go_enter Try.func87, Try.ntmps87
  go_wp2
  go_region_with (first | (go_at_call 12; refine (impl_FewestParts A n c l _ _ (r.dr ⟨⟨_, rfl⟩⟩) (by omega)).mono ?_; rintro e w1 ⟨rfl, b1⟩; have hd2 := pw_cell_below b1.out (pw_cell_below (Drawn0.below ⟨⟨_, rfl⟩⟩) hc2)) | (go_at_call 60; refine (within _ _ _ _).mono ?_; rintro e w' ⟨rfl, rfl⟩))
  all_goals (go_wp2_with fail; go_ret; exact ⟨rfl, (Bw.drawn ⟨⟨_, rfl⟩⟩).trans b1⟩)⟩
theorem wOk_sum {l : List Int} (hw : wOk l = true) : SumOk l := by
  have h := wOk_iff.1 hw
  exact sumOk_of l 1000000 (by omega) (fun x hx => by have := h.2 x hx; omega) (by omega)
theorem sum_psum (l : List Int) : l.sum = psum l l.length := by rw [psum, List.take_of_length_le (Nat.le_refl _)]
theorem sum_range {l : List Int} (hw : wOk l = true) : 0 ≤ l.sum ∧ l.sum ≤ 1000000000 := by
  have h := wOk_iff.1 hw
  have := sum_bound l 0 1000000 h.2
  omega
/-- what the search finds is the best -/
theorem search_best {l : List Int} {k : Nat} (hw : wOk l = true) (hn : l.length ≠ 0) (hk : 1 ≤ k) (N i : Nat) (hN : (N : Int) = l.sum) (hi : i ≤ N) (h1 : i < N → inR (fewest l (i : Int)) 0 (k : Int) = true) (h2 : 0 < i → inR (fewest l ((i - 1 : Nat) : Int)) 0 (k : Int) = false) : IsBest l k (i : Int) := by
  refine best_of hw hn ?_ ?_
  · by_cases h : i < N
    · exact (fewest_enough hw hn _ _).2 (inR_iff.1 (h1 h))
    · have : (i : Int) = psum l l.length := by rw [← sum_psum]; omega
      rw [this]
      exact all_enough hw hn k hk
  · intro he
    by_cases h : 0 < i
    · have h3 := (fewest_enough hw hn _ _).1 he
      have h4 := h2 h
      rw [show (((i - 1 : Nat) : Int)) = (i : Int) - 1 by omega, inR_yes h3] at h4
      cases h4
    · have := fits_nn hw hn he.1
      omega
def lenOf : Value → Nat
  | .slice _ n _ => n
  | _ => 0
theorem cuts_len_le (l : List Int) (m : Int) : (cutsL l m).length ≤ l.length + 2 := by
  have := (cutTo_len l m l.length).2
  simp [cutsL]
  omega
set_option maxRecDepth 100000 in
set_option maxHeartbeats 8000000 in
theorem impl_PartitionOf (A : Option Addr) (n c : Nat) (l : List Int) (k : Int) (w : World) (r : RI w A n l) (hcap : n ≤ c) :
    Calls Try.prog 54 #[.slice A n c, .int .i64 k] w fun e w' => ∃ v, e = .returned (.tuple #[v, .int .i64 (partL l k).2]) ∧ OI w' w.heap.size v (partL l k).1.length (partL l k).1 ∧ Bw w w' := by
  have hl := r.len
  have hmax := r.max
  have eg := enters_of Try.func87 (by kernel_rfl) rfl
  obtain ⟨W1, hW1⟩ : ∃ W1 : World, W1 = w.alloc (.cells #[.slice A n c] 28) := ⟨_, rfl⟩
  obtain ⟨W0, hW0⟩ : ∃ W0 : World, W0 = W1.alloc (.cells #[.int .i64 k] 3) := ⟨_, rfl⟩
  have b1 : Bw w W1 := ⟨by rw [hW1]; exact below_alloc (Below.refl _ _) _⟩
  have b2 : Bw W1 W0 := ⟨by rw [hW0]; exact below_alloc (Below.refl _ _) _⟩
  have s1 : W1.heap.size = w.heap.size + 1 := by rw [hW1]; simp
  have c1 : W0.cell? ⟨w.heap.size, 0, none⟩ = some (.slice A n c) := pw_cell_below b2.out (by rw [hW1]; simp)
  have c2 : W0.cell? ⟨w.heap.size + 1, 0, none⟩ = some (.int .i64 k) := by rw [hW0, ← s1]; simp
  have b0 := b1.trans b2
  have hsz : w.heap.size ≤ W0.heap.size := b0.out.size
  replace r := r.to b0
  have HW1 := hid hW1
  have HW0 := hid hW0
  clear b1 b2 hW0 hW1
  cases hin : inR k 1 16 with
  | false =>
    have hp : partL l k = ([], -1) := by simp [partL, hin]
    rw [hp]
    have HI := hid hin
    clear hin hl hp r
    go_enter Try.func54, Try.ntmps54
    go_wp2_with (go_at_call 60; refine (within _ _ _ _).mono ?_; rintro e w' ⟨rfl, rfl⟩; rw [HI.out])
    go_ret2
    exact ⟨_, rfl, OI.nil _ _, by have e1 := HW1.out; have e2 := HW0.out; subst e1; subst e2; exact b0⟩
  | true =>
    have HI := hid hin
    have hk := inR_iff.1 hin
    by_cases h0 : n = 0
    · have hp : partL l k = ([], -1) := by simp [partL, hl, h0]
      rw [hp]
      have t0 : ((n : Int) == 0) = true := beq_iff_eq.2 (by omega)
      clear hin hl hp r h0 hk
      go_enter Try.func54, Try.ntmps54
      go_wp2_with (go_at_call 60; refine (within _ _ _ _).mono ?_; rintro e w' ⟨rfl, rfl⟩; rw [HI.out])
      go_ret2
      exact ⟨_, rfl, OI.nil _ _, by have e1 := HW1.out; have e2 := HW0.out; subst e1; subst e2; exact b0⟩
    · have t0 : ((n : Int) == 0) = false := beq_eq_false_iff_ne.2 (by omega)
      have T0 := hid t0
      cases hw : wOk l with
      | false =>
        have hp : partL l k = ([], -1) := by simp [partL, hw]
        rw [hp]
        have HW := hid hw
        clear hin hl hp h0 hk hw
        go_enter Try.func54, Try.ntmps54
        go_wp2_with fail
        refine (within _ _ _ _).mono ?_
        rintro e w' ⟨rfl, rfl⟩
        rw [HI.out]
        rw [← HW1.out, ← HW0.out]
        go_wp2_with fail
        refine (impl_areWeights _ _ _ _ _ r).mono ?_
        rintro e w2 ⟨rfl, d1⟩
        rw [HW.out]
        go_wp2
        go_ret2
        exact ⟨_, rfl, OI.nil _ _, b0.trans (Bw.drawn d1)⟩
      | true =>
        obtain ⟨kn, rfl⟩ : ∃ kn : Nat, k = (kn : Int) := ⟨k.toNat, by omega⟩
        have hp : partL l (kn : Int) = (cutsOf l kn, bestOf l kn) := by simp [partL, hin, hw, hl, h0]
        rw [hp]
        obtain ⟨R, hR⟩ : ∃ R, R = cutsOf l kn := ⟨_, rfl⟩
        obtain ⟨M, hM⟩ : ∃ M, M = bestOf l kn := ⟨_, rfl⟩
        rw [← hR, ← hM]
        show Calls _ _ _ _ (fun e w' => ∃ v, e = .returned (.tuple #[v, .int .i64 M]) ∧ OI w' w.heap.size v R.length R ∧ Bw w w')
        have HR := hid hR
        have HM := hid hM
        clear hR hM
        have hn0 : l.length ≠ 0 := by omega
        obtain ⟨N, hN⟩ : ∃ N : Nat, (N : Int) = l.sum := ⟨l.sum.toNat, by have := sum_range hw; omega⟩
        have hNb : N ≤ 1000000000 := by have := sum_range hw; omega
        have hbest := fun i a b c => search_best hw hn0 (k := kn) (by omega) N i hN a b c
        have HBEST := hid hbest
        have HW := hid hw
        have HSO := hid (wOk_sum hw)
        have HN := hid hN
        have HN0 := hid hn0
        have HL := hid hl
        have hlen : n ≤ 1000 := by have := (wOk_iff.1 hw).1; omega
        have hk1 : 1 ≤ kn ∧ kn ≤ 16 := by omega
        have HP := part_pred W0 w.heap.size (w.heap.size + 1) A n c l (kn : Int) r c1 c2
        clear hin hl hp hw hbest hN hn0 hk t0
        go_enter Try.func54, Try.ntmps54
        go_wp2_with fail
        refine (within _ _ _ _).mono ?_
        rintro e w' ⟨rfl, rfl⟩
        rw [HI.out]
        rw [← HW1.out, ← HW0.out]
        have t0 := T0.out
        go_wp2_with fail
        refine (impl_areWeights _ _ _ _ _ r).mono ?_
        rintro e w2 ⟨rfl, d1⟩
        rw [HW.out]
        have d1' := Bw.drawn d1
        have c1' := pw_cell_below d1'.out c1
        have c2' := pw_cell_below d1'.out c2
        replace r := r.to d1'
        replace b0 := b0.trans d1'
        replace HP : PredW 87 #[.pointer (some ⟨w.heap.size, 0, none⟩), .pointer (some ⟨w.heap.size + 1, 0, none⟩)] (fun x => inR (fewest l x) 0 (kn : Int)) w2 := ⟨fun W x b hx => HP.out W x (d1'.trans b) hx⟩
        replace hsz : w.heap.size ≤ w2.heap.size := b0.out.size
        clear d1' d1 c1 c2
        go_wp2_with fail
        refine (impl_sum _ _ _ _ _ r HSO.out).mono ?_
        rintro e w' ⟨rfl, rfl⟩
        rw [← HN.out]
        go_wp2_with fail
        refine (Search N _ _ _ _ (by omega) HP eg).mono ?_
        rintro e w3 ⟨⟨i, rfl, hi1, hi2, hi3⟩, b3⟩
        have hb := HBEST.out i hi1 hi2 hi3
        obtain ⟨f1, f2, f3, f4, f5, f6⟩ := best_cuts HW.out HN0.out hk1.1 hk1.2 hb
        have fe := hb.eq
        have hfit := hid hb.enough.1
        have HME := hid (HM.out.trans fe)
        have HRE := hid (HR.out.trans f4)
        have hpad := hid (show (cutsL l (i : Int)).length + (kn + 1 - (cutsL l (i : Int)).length) = kn + 1 by omega)
        clear hi2 hi3 hb f1 f2 f3 f4 fe HP HR HM
        have c3 := pw_cell_below b3.out c1'
        have c4 := pw_cell_below b3.out c2'
        replace r := r.to b3
        replace b0 := b0.trans b3
        clear b3 c1' c2'
        go_wp2_with fail
        refine (impl_fill A n c l _ _ r HW.out (by omega)).mono ?_
        rintro e w4 ⟨(⟨_, v, rfl, o⟩ | ⟨hf, rfl⟩), b4⟩
        · obtain ⟨L, hL⟩ : ∃ L, L = cutsL l (i : Int) := ⟨_, rfl⟩
          rw [← hL] at o f5 f6 hpad HRE
          rw [HL.out] at HRE
          clear hL
          obtain ⟨A7, d7, rfl, _⟩ := o.reads
          go_wp2
          go_loopw [7] (fun v7 wr => ∃ q t : Nat, q = L.length + t ∧ q ≤ kn + 1 ∧ OI wr w3.heap.size v7 q (L ++ List.replicate t (n : Int)) ∧ Bw w3 wr) (fun v7 _ => kn + 1 - lenOf v7)
          case atStart => exact ⟨L.length, 0, rfl, f5, by simpa using o, b4⟩
          case round =>
            obtain ⟨q, t, hq, hqk, hO, hB⟩ := hrel
            obtain ⟨Ao, co, rfl, _⟩ := hO.reads
            have c5 := pw_cell_below hB.out c3
            have c6 := pw_cell_below hB.out c4
            have hO2 : OI wr w3.heap.size (.slice Ao q co) (L ++ List.replicate t (n : Int)).length (L ++ List.replicate t (n : Int)) := by rw [List.length_append, List.length_replicate, ← hq]; exact hO
            have HLEN := hid (show (L ++ List.replicate t (n : Int)).length = q by rw [List.length_append, List.length_replicate]; omega)
            by_cases hlt : q < kn + 1
            · have t1 : decide ((q : Int) < (kn : Int) + 1) = true := decide_eq_true (by omega)
              have HQ := hid hq
              clear hq
              go_wp2_with (at_builtin; refine print_append_num (w0 := w3) w3.heap.size rfl _ _ 28 3 .i64 8 rfl Try.underlying28 info_int (by omega) (.slice Ao q co) (L ++ List.replicate t (n : Int)) (n : Int) rfl rfl hO2.out hB.out hB.size (by have := HLEN.out; omega) ?_; intro v1 w5 hown1 hB1 hg1 _)
              go_roundw
              case rel => exact ⟨q + 1, t + 1, by have := HQ.out; omega, by omega, by
                have h := OI.app hown1
                rw [List.append_assoc, ← List.replicate_succ', List.length_append, List.length_replicate, ← Nat.add_assoc, ← HQ.out] at h
                exact h, ⟨hB1⟩⟩
              case measure => have h := OI.app hown1; obtain ⟨_, _, rfl, _⟩ := h.reads; have := HQ.out; simp [lenOf]; omega
            · have t1 : decide ((q : Int) < (kn : Int) + 1) = false := decide_eq_false (by omega)
              have HQ := hid hq
              clear hq
              go_wp2
              go_ret2
              have hq := HQ.out
              exact ⟨_, by rw [HME.out]; rfl, by
                have ht : kn + 1 - L.length = t := by omega
                rw [HRE.out, ht]
                exact hO2.base b0.out.size, b0.trans hB⟩
        · rw [hfit.out] at hf
          cases hf
end Go.Proofs.Ytaemkneppphkmaa.U
set_option linter.unusedVariables false
set_option linter.unusedSimpArgs false
namespace Go.Proofs.Ytaemkneppphkmaa.U
open Go.RowKit Go.Lib Go.Proofs.YtaemkneppphkmaaW.PrintWords

theorem cutsL_length_le (l : List Int) (m : Int) (h : l.length ≤ 1000) : (cutsL l m).length ≤ 1002 := by
  have := cuts_len_le l m
  omega
theorem top_fits_ge {l : List Int} (hw : wOk l = true) (hn : l.length ≠ 0) {m : Int} (h : topTo l l.length ≤ m) : fits l m = true := by
  have h1 := top_fits l m l.length rfl hw hn
  rw [decide_eq_false (by omega)] at h1
  cases hf : fits l m
  · rw [hf] at h1; cases h1
  · rfl
theorem spec_enough {l : List Int} (hw : wOk l = true) (hn : l.length ≠ 0) {m : Int} (k : Nat) (h : topTo l l.length ≤ m) : Enough l m k ↔ fewest l m ≤ k := by
  rw [fewest_enough hw hn]
  have hf := top_fits_ge hw hn h
  have : 0 ≤ fewest l m := by
    unfold fewest
    rw [if_pos hw, if_neg hn, if_pos hf]
    simp [cutsL]
  constructor
  · exact fun h => h.2
  · exact fun h => ⟨this, h⟩
theorem partL_len (l : List Int) (k : Int) : (partL l k).1.length ≤ 1048576 := by
  unfold partL
  split
  · rename_i h
    have h1 := inR_iff.1 h.1
    have h2 := cutsL_length_le l (bestOf l k.toNat) (wOk_iff.1 h.2.2).1
    simp only [cutsOf, List.length_append, List.length_replicate]
    omega
  · simp
theorem partL_nat {l : List Int} {k : Nat} (h1 : inR (k : Int) 1 16 = true) (h2 : l.length ≠ 0) (h3 : wOk l = true) : partL l (k : Int) = (cutsOf l k, bestOf l k) := by simp [partL, h1, h2, h3]
end Go.Proofs.Ytaemkneppphkmaa.U
set_option linter.unusedVariables false
set_option linter.unusedSimpArgs false
namespace Go.Proofs.Ytaemkneppphkmaa.U
open Go.RowKit Go.Lib Go.Proofs.YtaemkneppphkmaaW.PrintWords

/-- the last of the first k cuts that is at most i -/
def partTo (cuts : List Int) (i : Int) : Nat → Int
  | 0 => 0
  | k + 1 => if rd cuts (k : Int) ≤ i then (k : Int) else partTo cuts i k
theorem partTo_range (cuts : List Int) (i : Int) : ∀ (k : Nat), 0 ≤ partTo cuts i k ∧ partTo cuts i k ≤ k
  | 0 => by simp [partTo]
  | k + 1 => by
    have := partTo_range cuts i k
    unfold partTo
    split <;> push_cast <;> omega
def movedTo (a b : List Int) : Nat → Int
  | 0 => 0
  | i + 1 => if partTo a i a.length = partTo b i b.length then movedTo a b i else movedTo a b i + 1
theorem movedTo_range (a b : List Int) : ∀ (k : Nat), 0 ≤ movedTo a b k ∧ movedTo a b k ≤ k
  | 0 => by simp [movedTo]
  | k + 1 => by
    have := movedTo_range a b k
    unfold movedTo
    split <;> push_cast <;> omega
def lastOf (a : List Int) : Int := rd a ((a.length - 1 : Nat) : Int)
noncomputable def moved (a b : List Int) : Int :=
  if a.length ≠ 0 ∧ b.length ≠ 0 ∧ cutsOk (lastOf a) a = true ∧ cutsOk (lastOf a) b = true ∧ lastOf a ≤ 1000 then movedTo a b (lastOf a).toNat else -1

set_option maxHeartbeats 2000000 in
theorem impl_workerOf (A : Option Addr) (n c : Nat) (cuts : List Int) (i : Int) (w : World) (r : RI w A n cuts) :
    Calls Try.prog 55 #[.slice A n c, .int .i64 i] w fun e w' => e = .returned (.int .i64 (partTo cuts i n)) ∧ w = w' := by
  have hm := r.max
  go_enter Try.func55, Try.ntmps55
  go_wp2
  go_loop [5, 10] (fun s v => ∃ k : Nat, k ≤ n ∧ v = .int .i64 k ∧ s = .int .i64 (partTo cuts i k)) (fun _ v => n - (intOf v).toNat)
  case atStart => exact ⟨0, by omega, rfl, rfl⟩
  case round =>
    obtain ⟨k, hk, rfl, rfl⟩ := hrel
    by_cases hlt : k < n
    · obtain ⟨ad, rfl, hc⟩ := r.nat k hlt
      by_cases hle : rd cuts (k : Int) ≤ i
      · have hS : Hid (partTo cuts i (k + 1) = k) := hid (by rw [partTo, if_pos hle])
        go_wp2
        go_round
        case rel => exact ⟨k + 1, by omega, by go_num, by rw [hS.out]⟩
        case measure => simp [intOf]; omega
      · have hS : Hid (partTo cuts i (k + 1) = partTo cuts i k) := hid (by rw [partTo, if_neg hle])
        have hgt : i < rd cuts (k : Int) := by omega
        go_wp2
        go_round
        case rel => exact ⟨k + 1, by omega, by go_num, by rw [hS.out]⟩
        case measure => simp [intOf]; omega
    · obtain rfl : k = n := by omega
      go_wp2
      go_ret
      exact ⟨rfl, rfl⟩

set_option maxRecDepth 100000 in
set_option maxHeartbeats 8000000 in
theorem impl_MovedLeaves (A : Option Addr) (n c : Nat) (a : List Int) (B : Option Addr) (m d : Nat) (b : List Int) (w : World) (r : RI w A n a) (q : RI w B m b) :
    Calls Try.prog 28 #[.slice A n c, .slice B m d] w fun e w' => e = .returned (.int .i64 (moved a b)) ∧ Drawn0 w w' := by
  have hl := r.len
  have hl2 := q.len
  have hm := r.max
  have hm2 := q.max
  by_cases hn : n = 0
  · rw [show moved a b = -1 by rw [moved, if_neg (fun h => h.1 (by omega))]]
    have t0 : ((n : Int) == 0) = true := beq_iff_eq.2 (by omega)
    clear hl hl2 hn
    go_enter Try.func28, Try.ntmps28
    go_wp2_with (fail)
    go_ret
    exact ⟨rfl, by first | exact Drawn0.refl _ | exact ⟨⟨_, rfl⟩⟩ | assumption | exact Drawn0.trans' d1 d2⟩
  by_cases hn2 : m = 0
  · rw [show moved a b = -1 by rw [moved, if_neg (fun h => h.2.1 (by omega))]]
    have t0 : ((n : Int) == 0) = false := beq_eq_false_iff_ne.2 (by omega)
    have t1 : ((m : Int) == 0) = true := beq_iff_eq.2 (by omega)
    clear hl hl2 hn hn2
    go_enter Try.func28, Try.ntmps28
    go_wp2_with (fail)
    go_ret
    exact ⟨rfl, by first | exact Drawn0.refl _ | exact ⟨⟨_, rfl⟩⟩ | assumption | exact Drawn0.trans' d1 d2⟩
  have t0 : ((n : Int) == 0) = false := beq_eq_false_iff_ne.2 (by omega)
  have t1 : ((m : Int) == 0) = false := beq_eq_false_iff_ne.2 (by omega)
  have hlast : lastOf a = rd a ((n - 1 : Nat) : Int) := by rw [lastOf, hl]
  obtain ⟨ad, rfl, hc1⟩ := r.nat (n - 1) (by omega)
  have e1 : ((n : Int) - 1).toNat = n - 1 := by omega
  have p1 : 1 ≤ n := by omega
  rw [← hlast] at hc1
  cases hca : cutsOk (lastOf a) a with
  | false =>
    rw [show moved a b = -1 by rw [moved, if_neg (fun h => by rw [h.2.2.1] at hca; cases hca)]]
    have HA := hid hca; clear hca hl hl2 hn hn2 hlast
    generalize lastOf a = N at *
    go_enter Try.func28, Try.ntmps28
    go_wp2_with ((go_at_call 35; refine (toBool (impl_CutsOk _ _ _ _ _ _ r) HA.out).mono ?_; rintro e w' ⟨rfl, d1⟩))
    go_ret
    exact ⟨rfl, by first | exact Drawn0.refl _ | exact ⟨⟨_, rfl⟩⟩ | assumption | exact Drawn0.trans' d1 d2⟩
  | true =>
    cases hcb : cutsOk (lastOf a) b with
    | false =>
      rw [show moved a b = -1 by rw [moved, if_neg (fun h => by rw [h.2.2.2.1] at hcb; cases hcb)]]
      have HA := hid hca; clear hca hl hl2 hn hn2 hlast
      have HB := hid hcb; clear hcb
      generalize lastOf a = N at *
      go_enter Try.func28, Try.ntmps28
      go_wp2_with fail
      refine (toBool (impl_CutsOk _ _ _ _ _ _ r) HA.out).mono ?_
      rintro e w1 ⟨rfl, d1⟩
      go_wp2_with fail
      refine (toBool (impl_CutsOk _ _ _ _ _ _ (q.dr d1)) HB.out).mono ?_
      rintro e w2 ⟨rfl, d2⟩
      go_wp2
      go_ret
      exact ⟨rfl, Drawn0.trans' d1 d2⟩
    | true =>
      have hN0 : 0 ≤ lastOf a := by
        obtain ⟨⟨g1, _⟩, g2, g3, g4⟩ := cutsOk_facts hca
        have := asc_le g4 (a.length - 1) 0 (by omega)
        rw [Nat.zero_add, g3] at this
        have g5 : rd a ((0 : Nat) : Int) = 0 := g2
        omega
      by_cases h1000 : lastOf a ≤ 1000
      · have hM := hid (show moved a b = movedTo a b (lastOf a).toNat by rw [moved, if_pos ⟨by omega, by omega, hca, hcb, h1000⟩])
        have HA := hid hca; clear hca hn hn2 hlast
        have HB := hid hcb; clear hcb
        have hst := hid (show ∀ i : Nat, movedTo a b (i + 1) = if partTo a i n = partTo b i m then movedTo a b i else movedTo a b i + 1 from fun i => by rw [movedTo, hl, hl2])
        have hpa := hid (show ∀ i : Nat, 0 ≤ partTo a i n ∧ partTo a i n ≤ n from fun i => partTo_range a i n)
        have hmr := hid (movedTo_range a b)
        clear hl hl2
        generalize lastOf a = LA at *
        obtain ⟨N, rfl⟩ : ∃ N : Nat, LA = (N : Int) := ⟨LA.toNat, by omega⟩
        rw [Int.toNat_natCast] at hM
        generalize moved a b = R at *
        go_enter Try.func28, Try.ntmps28
        go_wp2_with fail
        refine (toBool (impl_CutsOk _ _ _ _ _ _ r) HA.out).mono ?_
        rintro e w1 ⟨rfl, d1⟩
        go_wp2_with fail
        refine (toBool (impl_CutsOk _ _ _ _ _ _ (q.dr d1)) HB.out).mono ?_
        rintro e w2 ⟨rfl, d2⟩
        have d3 := Drawn0.trans' d1 d2
        clear d1 d2
        have r2 := r.dr d3
        have q2 := q.dr d3
        clear hc1
        go_wp2
        go_loop [6, 37] (fun s v => ∃ k : Nat, k ≤ N ∧ v = .int .i64 k ∧ s = .int .i64 (movedTo a b k)) (fun _ v => N - (intOf v).toNat)
        case atStart => exact ⟨0, by omega, rfl, rfl⟩
        case round =>
          obtain ⟨k, hk, rfl, rfl⟩ := hrel
          by_cases hlt : k < N
          · have hs := hid (hst.out k)
            obtain ⟨g1, g2⟩ := hmr.out k
            generalize movedTo a b k = s at *
            go_wp2_with fail
            refine (impl_workerOf _ _ _ _ _ _ r2).mono ?_
            rintro e w3 ⟨rfl, rfl⟩
            go_wp2_with fail
            refine (impl_workerOf _ _ _ _ _ _ q2).mono ?_
            rintro e w4 ⟨rfl, rfl⟩
            by_cases he : partTo a k n = partTo b k m
            · have hs2 : Hid (movedTo a b (k + 1) = s) := hid (by rw [hs.out, if_pos he])
              have tt : (partTo a k n != partTo b k m) = false := by simp [he]
              clear he
              go_wp2
              go_round
              case rel => exact ⟨k + 1, by omega, by go_num, by rw [hs2.out]⟩
              case measure => simp [intOf]; omega
            · have hs2 : Hid (movedTo a b (k + 1) = s + 1) := hid (by rw [hs.out, if_neg he])
              have tt : (partTo a k n != partTo b k m) = true := by simp [he]
              clear he
              go_wp2
              go_round
              case rel => exact ⟨k + 1, by omega, by go_num, by rw [hs2.out]⟩
              case measure => simp [intOf]; omega
          · obtain rfl : k = N := by omega
            go_wp2
            go_ret
            exact ⟨ret_int hM.out.symm, d3⟩
      · rw [show moved a b = -1 by rw [moved, if_neg (fun h => h1000 h.2.2.2.2)]]
        have HA := hid hca; clear hca hl hl2 hn hn2 hlast
        have HB := hid hcb; clear hcb
        generalize lastOf a = N at *
        go_enter Try.func28, Try.ntmps28
        go_wp2_with fail
        refine (toBool (impl_CutsOk _ _ _ _ _ _ r) HA.out).mono ?_
        rintro e w1 ⟨rfl, d1⟩
        go_wp2_with fail
        refine (toBool (impl_CutsOk _ _ _ _ _ _ (q.dr d1)) HB.out).mono ?_
        rintro e w2 ⟨rfl, d2⟩
        go_wp2
        go_ret
        exact ⟨rfl, Drawn0.trans' d1 d2⟩

end Go.Proofs.Ytaemkneppphkmaa.U
