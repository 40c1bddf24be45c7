/- The law FnErrorBounds returns true at all codes. -/
import Derived.Test.YtbjdohceapijjaaDp
import Derived.Test.YtbjdohceapijjaaEb
import Derived.Test.YtbjdohceapijjaaRx
set_option linter.unusedVariables false
set_option linter.unusedSimpArgs false
namespace Go.Proofs.Ytbjdohceapijjaa.U
open Go.RowKit Go.Lib Go.Proofs.YtbjdohceapijjaaW.PrintWords

theorem lawbig (A : Option Addr) (n c : Nat) (w : World) : Calls Try.prog 33 #[.slice A n c] w fun e w' => e = .returned (.bool (decide (1048576 < (n : Int)))) ∧ w = w' := by
  go_enter Try.func33, Try.ntmps33
  go_wp2
  go_ret
  exact ⟨rfl, rfl⟩
theorem most_at (g : Nat → Int) : ∀ n, 0 < n → ∃ i, i < n ∧ ∀ j, j < n → -((g i).natAbs : Int) ≤ g j ∧ g j ≤ (g i).natAbs
  | 0, h => by omega
  | 1, _ => ⟨0, by omega, fun j hj => by obtain rfl : j = 0 := by omega
                                         omega⟩
  | n + 2, _ => by
    obtain ⟨i, hi, h⟩ := most_at g (n + 1) (by omega)
    by_cases hc : (g (n + 1)).natAbs ≤ (g i).natAbs
    · refine ⟨i, by omega, fun j hj => ?_⟩
      rcases Nat.lt_or_ge j (n + 1) with h1 | h1
      · exact h j h1
      · obtain rfl : j = n + 1 := by omega
        omega
    · refine ⟨n + 1, by omega, fun j hj => ?_⟩
      rcases Nat.lt_or_ge j (n + 1) with h1 | h1
      · have := h j h1
        omega
      · obtain rfl : j = n + 1 := by omega
        omega
def diffL (u v : List Int) (n : Nat) : List Int := (List.range n).map fun j => rd u ((j : Nat) : Int) - rd v ((j : Nat) : Int)
theorem diffL_rd (u v : List Int) (n j : Nat) (hj : j < n) : rd (diffL u v n) (j : Int) = rd u (j : Int) - rd v (j : Int) := by
  rw [rd_nat, List.getD_eq_getElem?_getD, diffL]
  simp [hj]
theorem diff_near (u v : List Int) (n j : Nat) (hj : j < n) : leftOf (diffL u v n) j + rightOf (diffL u v n) n j = (leftOf u j + rightOf u n j) - (leftOf v j + rightOf v n j) := by
  unfold leftOf rightOf
  by_cases h1 : 0 < j <;> by_cases h2 : j + 1 < n <;> simp only [h1, h2, if_true, if_false]
  · rw [diffL_rd u v n (j - 1) (by omega), diffL_rd u v n (j + 1) h2]; omega
  · rw [diffL_rd u v n (j - 1) (by omega)]; omega
  · rw [diffL_rd u v n (j + 1) h2]; omega
  · omega
/-- Two guesses differ by at most the sum of their error bounds. -/
theorem err_close (u v f : List Int) (k : Int) (n : Nat) (a b : Int) (hk0 : 0 ≤ k) (ha : ∀ j, j < n → -a ≤ resAt u f k n j ∧ resAt u f k n j ≤ a) (hb : ∀ j, j < n → -b ≤ resAt v f k n j ∧ resAt v f k n j ≤ b) :
    ∀ j, j < n → -(a + b) ≤ rd u (j : Int) - rd v (j : Int) ∧ rd u (j : Int) - rd v (j : Int) ≤ a + b := by
  intro j hj
  obtain ⟨i, hi, hm⟩ := most_at (fun j => rd u (j : Int) - rd v (j : Int)) n (by omega)
  have hD : Bd (diffL u v n) ((rd u (i : Int) - rd v (i : Int)).natAbs : Int) := ⟨fun p hp => by
    have hp' : p < n := by simpa [diffL] using hp
    rw [diffL_rd u v n p hp']
    exact hm p hp'⟩
  have hn := near_by (diffL u v n) n i _ (by omega) hD (by simp [diffL]) hi
  rw [diff_near u v n i hi] at hn
  have h1 := ha i hi
  have h2 := hb i hi
  have h3 := hm j hj
  unfold resAt at h1 h2
  have k1 := Int.mul_le_mul_of_nonneg_left hn.1 hk0
  have k2 := Int.mul_le_mul_of_nonneg_left hn.2 hk0
  rw [Int.mul_neg, ← Int.mul_assoc, Int.mul_sub] at k1
  rw [← Int.mul_assoc, Int.mul_sub] at k2
  rw [Int.add_mul, Int.one_mul] at h1 h2
  generalize hx : rd u (i : Int) = x at *
  generalize hy : rd v (i : Int) = y at *
  have e : k * nearCnt n i * (x - y) = k * nearCnt n i * x - k * nearCnt n i * y := Int.mul_sub _ _ _
  generalize leftOf u i + rightOf u n i = su at *
  generalize leftOf v i + rightOf v n i = sv at *
  rcases Int.lt_or_le (x - y) 0 with h | h
  · have e2 : (((x - y).natAbs : Nat) : Int) = -(x - y) := by omega
    rw [e2, Int.mul_neg] at k1 k2
    omega
  · have e2 : (((x - y).natAbs : Nat) : Int) = x - y := by omega
    rw [e2] at k1 k2
    omega
theorem sysOk_of (u f : List Int) (k : Int) (n : Nat) (h1 : u.length = n) (h2 : f.length = n) (hn : 1 ≤ n ∧ n ≤ 64) (hu : Bd u 1000000000) (hf : Bd f 1000000000) (hk : 0 ≤ k ∧ k ≤ 1000) : sysOk u f k = true := by
  simp only [sysOk, Bool.and_eq_true, decide_eq_true_eq, inR_iff]
  exact ⟨⟨⟨by omega, unkOk_iff.2 ⟨by omega, hu.mem⟩⟩, unkOk_iff.2 ⟨by omega, hf.mem⟩⟩, hk⟩
/-- what the law needs of a drawn system: the sweep, the bounds -/
theorem bounds_facts (u f : List Int) (k : Int) (n : Nat) (hl : u.length = n) (hl2 : f.length = n) (hn : 1 ≤ n ∧ n ≤ 16) (hu : Bd u 15000) (hf : Bd f 15000) (hk : 0 ≤ k ∧ k ≤ 1000) :
    ∃ v a b, relL u f k = v ∧ v.length = n ∧ errB u f k = a ∧ errB v f k = b ∧ 0 ≤ a ∧ 0 ≤ b ∧ a ≤ 4002000000000000000 ∧ b ≤ 4002000000000000000 ∧ Bd v 15000 ∧ sysOk u f k = true ∧ (∀ j, j < n → rd u (j : Int) - rd v (j : Int) ≤ a + b ∧ rd v (j : Int) - rd u (j : Int) ≤ a + b) := by
  have hs := sysOk_of u f k n hl hl2 (by omega) (hu.mono (by omega)) (hf.mono (by omega)) hk
  have hv := relTo_bd u f k n 15000 (by omega) hu hf (by omega) (by omega) hk.1 n (Nat.le_refl _)
  have hvl := relTo_length u f k n n
  rw [hl] at hvl
  have hs2 := sysOk_of (relTo u f k n n) f k n hvl hl2 (by omega) (hv.mono (by omega)) (hf.mono (by omega)) hk
  have b1 := resTo_bd u f k n (hu.mono (by omega)) (hf.mono (by omega)) (by omega) (by omega) hk.1 hk.2
  have b2 := resTo_bd (relTo u f k n n) f k n (hv.mono (by omega)) (hf.mono (by omega)) (by omega) (by omega) hk.1 hk.2
  have m1 := absMost_range _ _ (by omega) b1 n (by rw [resTo_length]; exact Nat.le_refl _)
  have m2 := absMost_range _ _ (by omega) b2 n (by rw [resTo_length]; exact Nat.le_refl _)
  refine ⟨relTo u f k n n, absMost (resTo u f k n n) n, absMost (resTo (relTo u f k n n) f k n n) n, by simp [relL, hs, hl], hvl, by simp [errB, hs, hl], by simp [errB, hs2, hvl], m1.1, m2.1, m1.2, m2.2, hv, hs, fun j hj => ?_⟩
  have := err_close u (relTo u f k n n) f k n _ _ hk.1 (fun j hj => by have := absMost_ge (resTo u f k n n) n j hj; rwa [resTo_rd _ _ _ _ _ _ hj] at this) (fun j hj => by have := absMost_ge (resTo (relTo u f k n n) f k n n) n j hj; rwa [resTo_rd _ _ _ _ _ _ hj] at this) j hj
  omega
set_option maxHeartbeats 8000000 in
set_option maxRecDepth 100000 in
theorem law_ErrorBounds (A : Option Addr) (n c : Nat) (l : List Int) (w : World) (r : ReadsInt w .u8 A n l) (wf : ∀ x ∈ l, 0 ≤ x ∧ x ≤ 255) :
    Calls Try.prog 10 #[.slice A n c] w fun e w' => e = .returned (.bool true) ∧ Bw w w' := by
  have WF := hid wf
  clear wf
  by_cases hb : n ≤ 1048576
  · have t1 : decide (1048576 < (n : Int)) = false := decide_eq_false (by omega)
    have T1 := hid t1
    clear t1
    go_enter Try.func10, Try.ntmps10
    go_wp2_with fail
    refine (toBool (lawbig _ _ _ _) T1.out).mono ?_
    rintro e w1 ⟨rfl, rfl⟩
    go_wp2_with fail
    refine (DrawSystem A n c l _ r WF.out hb).mono ?_
    rintro e w1 ⟨B, C, b, d, m, u, f, k, rfl, hu, hf, ha, hub, hfb, hm, hk, b1⟩
    obtain ⟨v, x, y, ev, hvl, ex, ey, hx0, hy0, hx1, hy1, hvb, hsys, hclose⟩ := bounds_facts u f k m hu.len hf.len hm hub hfb hk
    have hlu := hid hu.len
    have HV := hid ev
    have HVL := hid hvl
    have HX := hid ex
    have HY := hid ey
    have HS := hid hsys
    have HC := hid hclose
    have ru := hu.ri
    have rf := hf.ri
    clear ev hvl ex ey hsys hclose ha hu hf
    go_wp2_with fail
    refine (impl_Relax _ m b u _ m d f k _ ru rf).mono ?_
    rintro e w2 ⟨V, rfl, o, b2⟩
    rw [HV.out, HVL.out] at o
    obtain ⟨D, dd, rfl, rv⟩ := o.reads
    replace ru := ru.to b2
    replace rf := rf.to b2
    replace b1 := b1.trans b2
    clear b2 o
    go_wp2_with fail
    refine (impl_ErrorBound _ m b u _ m d f k _ ru rf).mono ?_
    rintro e w3 ⟨rfl, b3⟩
    rw [HX.out]
    replace ru := ru.to b3
    replace rf := rf.to b3
    replace rv := rv.to b3
    replace b1 := b1.trans b3
    clear b3
    go_wp2_with fail
    refine (impl_ErrorBound _ m dd v _ m d f k _ rv rf).mono ?_
    rintro e w4 ⟨rfl, b4⟩
    rw [HY.out]
    replace ru := ru.to b4
    replace rf := rf.to b4
    replace rv := rv.to b4
    replace b1 := b1.trans b4
    clear b4 HX HY HV
    go_wp2
    go_loopw [9] (fun v9 wr => ∃ j : Nat, j ≤ m ∧ v9 = .int .i64 j ∧ Hid (Drawn0 w4 wr)) (fun v9 _ => m - (intOf v9).toNat)
    case atStart => exact ⟨0, by omega, rfl, hid (Drawn0.refl _)⟩
    case round =>
      obtain ⟨j, hj, rfl, hD⟩ := hrel
      by_cases hlt : j < m
      · have t1 : decide ((j : Int) < (m : Int)) = true := decide_eq_true (by omega)
        obtain ⟨ad, rfl, hc1⟩ := (ru.dr hD.out).nat j hlt
        obtain ⟨ae, rfl, hc2⟩ := (rv.dr hD.out).nat j (by omega)
        obtain ⟨z1, z2⟩ := HC.out j hlt
        obtain ⟨p1, p2⟩ := hub.out j (by rw [hlu.out]; exact hlt)
        obtain ⟨q1, q2⟩ := hvb.out j (by rw [HVL.out]; exact hlt)
        generalize rd u (j : Int) = p at *
        generalize rd v (j : Int) = q at *
        have i1 : IntKind.i64.wrap (p - q) = p - q := i64w (by omega) (by omega)
        have i2 : IntKind.i64.wrap (x + y) = x + y := i64w (by omega) (by omega)
        have i3 : IntKind.i64.wrap (q - p) = q - p := i64w (by omega) (by omega)
        have i4 : (0 : Int) ≤ (j : Int) := by omega
        have i5 : (j : Int) < (m : Int) := by omega
        have t2 : decide (x + y < p - q) = false := decide_eq_false (by omega)
        have t3 : decide (x + y < q - p) = false := decide_eq_false (by omega)
        have HLT := hid hlt
        clear z1 z2 p1 p2 q1 q2 hlt
        go_wp2
        go_quiet (fail)
        go_wp2
        go_roundw
        case rel => exact ⟨j + 1, by have := HLT.out; omega, by go_num, hid (hD.out.step _)⟩
        case measure => have := HLT.out; simp [intOf]; omega
      · obtain rfl : j = m := by omega
        have t1 : decide ((j : Int) < (j : Int)) = false := decide_eq_false (by omega)
        go_wp2_with fail
        refine (toBool (impl_SystemOk _ j b u _ j d f k _ (ru.dr hD.out) (rf.dr hD.out)) HS.out).mono ?_
        rintro e w5 ⟨rfl, b5⟩
        go_wp2
        go_ret
        exact ⟨rfl, (b1.trans (Bw.drawn hD.out)).trans b5⟩
  · have t1 : decide (1048576 < (n : Int)) = true := decide_eq_true (by omega)
    have T1 := hid t1
    clear t1
    go_enter Try.func10, Try.ntmps10
    go_wp2_with fail
    refine (toBool (lawbig _ _ _ _) T1.out).mono ?_
    rintro e w1 ⟨rfl, rfl⟩
    go_wp2
    go_ret
    exact ⟨rfl, Bw.refl _⟩
end Go.Proofs.Ytbjdohceapijjaa.U
