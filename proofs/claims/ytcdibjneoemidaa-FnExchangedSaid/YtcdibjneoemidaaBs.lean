
/- slices.BinarySearchFunc over packets at the closure of early. -/
import Derived.Test.YtcdibjneoemidaaG1
import Derived.Test.YtcdibjneoemidaaWMore
import Derived.Shelf.Abstract
import Derived.Deep.LoopGhost
set_option linter.unusedVariables false
set_option linter.unusedSimpArgs false
namespace Go.Proofs.Ytcdibjneoemidaa.U
open Go.RowKit Go.Lib Go.Proofs.YtcdibjneoemidaaW.PrintWords

/-- n packets lie at A: their numbers and values -/
structure PK (w : World) (A : Option Addr) (n : Nat) (sq vl : Nat → Int) : Prop where
  mk :: (out : n ≤ 9223372036854775807 ∧ ∀ i, i < n → ∃ ad, A = some ad ∧ w.cell? (ad.add (i * 2)) = some (.int .i64 (sq i)) ∧ w.cell? ⟨(ad.add (i * 2)).block, (ad.add (i * 2)).off + 1, none⟩ = some (.int .i64 (vl i)))
theorem PK.to {w w' : World} {A : Option Addr} {n : Nat} {sq vl : Nat → Int} (h : PK w A n sq vl) (b : Bw w w') : PK w' A n sq vl := ⟨h.out.1, fun i hi => by
  obtain ⟨ad, e, h1, h2⟩ := h.out.2 i hi
  exact ⟨ad, e, pw_cell_below b.out h1, pw_cell_below b.out h2⟩⟩
def cmpB (s x : Int) : Int := if s < x then -1 else if x < s then 1 else 0
theorem cmpB_lt (s x : Int) : decide (cmpB s x < 0) = decide (s < x) := by
  unfold cmpB
  by_cases h : s < x
  · rw [if_pos h]; simp [h]
  · rw [if_neg h]
    by_cases h2 : x < s
    · rw [if_pos h2]; simp [h]
    · rw [if_neg h2]; simp [h]
theorem cmpB_eq (s x : Int) : (cmpB s x == 0) = (s == x) := by
  unfold cmpB
  by_cases h : s < x
  · rw [if_pos h, beq_eq_false_iff_ne.2 (show s ≠ x by omega)]; rfl
  · rw [if_neg h]
    by_cases h2 : x < s
    · rw [if_pos h2, beq_eq_false_iff_ne.2 (show s ≠ x by omega)]; rfl
    · rw [if_neg h2, beq_iff_eq.2 (show s = x by omega)]; rfl
set_option maxHeartbeats 1000000 in
theorem early1 (s v x : Int) (w : World) : Calls Try.prog 49 #[.agg #[.int .i64 s, .int .i64 v], .int .i64 x] w fun e w' => e = .returned (.int .i64 (cmpB s x)) ∧ Bw w w' := by
  have b0 : Bw w (w.alloc (.cells #[.int .i64 s, .int .i64 v] 34)) := ⟨below_alloc (Below.refl _ _) _⟩
  by_cases h1 : s < x
  · have t1 : decide (s < x) = true := decide_eq_true h1
    rw [show cmpB s x = -1 by simp [cmpB, h1]]
    clear h1
    go_enter Try.func49, Try.ntmps49
    go_wp2
    go_ret
    exact ⟨rfl, b0⟩
  · have t1 : decide (s < x) = false := decide_eq_false h1
    by_cases h2 : x < s
    · have t2 : decide (x < s) = true := decide_eq_true h2
      rw [show cmpB s x = 1 by simp [cmpB, h1, h2]]
      clear h1 h2
      go_enter Try.func49, Try.ntmps49
      go_wp2
      go_ret
      exact ⟨rfl, b0⟩
    · have t2 : decide (x < s) = false := decide_eq_false h2
      rw [show cmpB s x = 0 by simp [cmpB, h1, h2]]
      clear h1 h2
      go_enter Try.func49, Try.ntmps49
      go_wp2
      go_ret
      exact ⟨rfl, b0⟩
/-- the search between i and j -/
def bsW (sq : Nat → Int) (x : Int) (i j : Nat) : Nat := if h : i < j then (if sq ((i + j) / 2) < x then bsW sq x ((i + j) / 2 + 1) j else bsW sq x i ((i + j) / 2)) else i
termination_by j - i
decreasing_by all_goals omega
theorem bsW_lo {sq : Nat → Int} {x : Int} {i j : Nat} (h : i < j) (hs : sq ((i + j) / 2) < x) : bsW sq x i j = bsW sq x ((i + j) / 2 + 1) j := by rw [bsW, dif_pos h, if_pos hs]
theorem bsW_hi {sq : Nat → Int} {x : Int} {i j : Nat} (h : i < j) (hs : ¬ sq ((i + j) / 2) < x) : bsW sq x i j = bsW sq x i ((i + j) / 2) := by rw [bsW, dif_pos h, if_neg hs]
theorem bsW_end (sq : Nat → Int) (x : Int) (i : Nat) : bsW sq x i i = i := by rw [bsW, dif_neg (by omega)]
theorem bsW_split {sq : Nat → Int} {x : Int} {n k : Nat} (h1 : ∀ j, j < k → sq j < x) (h2 : ∀ j, k ≤ j → j < n → ¬ sq j < x) : ∀ (d i j : Nat), j - i ≤ d → i ≤ k → k ≤ j → j ≤ n → bsW sq x i j = k
  | 0, i, j, hd, hi, hk, hj => by
    obtain rfl : i = k := by omega
    obtain rfl : i = j := by omega
    exact bsW_end _ _ _
  | d + 1, i, j, hd, hi, hk, hj => by
    by_cases h : i < j
    · by_cases hs : sq ((i + j) / 2) < x
      · rw [bsW_lo h hs]
        refine bsW_split h1 h2 d _ j (by omega) ?_ hk hj
        rcases Nat.lt_or_ge ((i + j) / 2) k with h3 | h3
        · omega
        · exact absurd hs (h2 _ h3 (by omega))
      · rw [bsW_hi h hs]
        refine bsW_split h1 h2 d i _ (by omega) hi ?_ (by omega)
        rcases Nat.lt_or_ge ((i + j) / 2) k with h3 | h3
        · exact absurd (h1 _ h3) hs
        · exact h3
    · obtain rfl : i = j := by omega
      obtain rfl : i = k := by omega
      exact bsW_end _ _ _
theorem mid_wrap (i j n m : Nat) (h1 : i ≤ j) (h2 : j ≤ n) (h3 : n ≤ 9223372036854775807) (hm : m = (i + j) / 2) : wrap64 (IntKind.u64.wrap (wrap64 ((i : Int) + (j : Int))) / 2) = (m : Int) := by
  simp only [wrap64, IntKind.wrap, IntKind.signed, IntKind.bits]
  simp
  omega
set_option maxHeartbeats 4000000 in
theorem BSearch (A : Option Addr) (n c : Nat) (sq vl : Nat → Int) (x : Int) (w : World) (h : PK w A n sq vl) :
    Calls Try.prog 48 #[.slice A n c, .int .i64 x, .func (.func 49) #[] #[]] w fun e w' =>
      e = .returned (.tuple #[.int .i64 (bsW sq x 0 n : Nat), .bool (decide (bsW sq x 0 n < n) && (sq (bsW sq x 0 n) == x))]) ∧ Bw w w' := by
  have hmax := h.out.1
  have eg := enters_of Try.func49 (by kernel_rfl) rfl
  obtain ⟨R, hR⟩ : ∃ R, R = bsW sq x 0 n := ⟨_, rfl⟩
  obtain ⟨F, hF⟩ : ∃ F, F = (decide (R < n) && (sq R == x)) := ⟨_, rfl⟩
  rw [← hR, ← hF]
  have HR := hid hR
  have HF := hid hF
  clear hR hF
  go_enter Try.func48, Try.ntmps48
  go_wp2
  go_loopw [9, 10] (fun v9 v10 wr => ∃ i j : Nat, i ≤ j ∧ j ≤ n ∧ v9 = .int .i64 i ∧ v10 = .int .i64 j ∧ Hid (R = bsW sq x i j) ∧ Bw w wr) (fun v9 v10 _ => (intOf v10).toNat - (intOf v9).toNat)
  case atStart => exact ⟨0, n, by omega, by omega, rfl, rfl, HR, Bw.refl _⟩
  case round =>
    obtain ⟨i, j, hij, hjn, rfl, rfl, hE, hB⟩ := hrel
    by_cases hlt : i < j
    · have t1 : decide ((i : Int) < (j : Int)) = true := decide_eq_true (by omega)
      obtain ⟨m, hm⟩ : ∃ m, m = (i + j) / 2 := ⟨_, rfl⟩
      have hm1 : i ≤ m ∧ m < j := by omega
      have hq := mid_wrap i j n m hij hjn hmax hm
      obtain ⟨ad, rfl, c1, c2⟩ := (h.to hB).out.2 m (by omega)
      have g0 : (0 : Int) ≤ (m : Int) := by omega
      have g1 : (m : Int) < (n : Int) := by omega
      have HLT := hid hlt
      have HM := hid hm
      clear hm
      go_wp2_with fail
      clear hlt
      refine (early1 (sq m) (vl m) x _).mono ?_
      rintro e w2 ⟨rfl, b2⟩
      by_cases hs : sq m < x
      · have t2 : decide (cmpB (sq m) x < 0) = true := by rw [cmpB_lt]; exact decide_eq_true hs
        have hE2 : Hid (R = bsW sq x (m + 1) j) := hid (by rw [hE.out, bsW_lo HLT.out (by rw [← HM.out]; exact hs), ← HM.out])
        generalize cmpB (sq m) x = cc at *
        clear hs
        go_wp2
        go_roundw
        case rel => exact ⟨m + 1, j, by omega, hjn, by go_num, rfl, hE2, hB.trans b2⟩
        case measure => have := HLT.out; simp [intOf]; omega
      · have t2 : decide (cmpB (sq m) x < 0) = false := by rw [cmpB_lt]; exact decide_eq_false hs
        have hE2 : Hid (R = bsW sq x i m) := hid (by rw [hE.out, bsW_hi HLT.out (by rw [← HM.out]; exact hs), ← HM.out])
        generalize cmpB (sq m) x = cc at *
        clear hs
        go_wp2
        go_roundw
        case rel => exact ⟨i, m, hm1.1, by omega, rfl, by go_num, hE2, hB.trans b2⟩
        case measure => have := HLT.out; simp [intOf]; omega
    · obtain rfl : i = j := by omega
      have t1 : decide ((i : Int) < (i : Int)) = false := decide_eq_false (by omega)
      have hRi : R = i := by rw [hE.out, bsW_end]
      by_cases hin : i < n
      · obtain ⟨ad, rfl, c1, c2⟩ := (h.to hB).out.2 i hin
        have t2 : decide ((i : Int) < (n : Int)) = true := decide_eq_true (by omega)
        have g0 : (0 : Int) ≤ (i : Int) := by omega
        have HFE : Hid (F = (cmpB (sq i) x == 0)) := hid (by rw [HF.out, hRi, decide_eq_true hin, Bool.true_and, cmpB_eq])
        have HRI := hid hRi
        clear hRi
        go_wp2_with fail
        refine (early1 (sq i) (vl i) x _).mono ?_
        rintro e w2 ⟨rfl, b2⟩
        generalize cmpB (sq i) x = cc at *
        go_wp2
        go_ret2
        exact ⟨by rw [HRI.out, HFE.out]; rfl, hB.trans b2⟩
      · have t2 : decide ((i : Int) < (n : Int)) = false := decide_eq_false (by omega)
        have HFE : Hid (F = false) := hid (by rw [HF.out, hRi, decide_eq_false hin, Bool.false_and])
        have HRI := hid hRi
        clear hRi
        go_wp2
        go_ret2
        exact ⟨by rw [HRI.out, HFE.out]; rfl, hB⟩
end Go.Proofs.Ytcdibjneoemidaa.U
