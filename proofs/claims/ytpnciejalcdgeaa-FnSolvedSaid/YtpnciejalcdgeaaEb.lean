
/- The greatest absolute value of a residual, by the program and by the reference. -/
import Derived.Test.YtpnciejalcdgeaaRe
set_option linter.unusedVariables false
set_option linter.unusedSimpArgs false
namespace Go.Proofs.Ytpnciejalcdgeaa.U
open Go.RowKit Go.Lib Go.Proofs.YtpnciejalcdgeaaW.PrintWords

def absMost (l : List Int) : Nat → Int
  | 0 => 0
  | j + 1 => bigMax (absMost l j) (bigMax (rd l (j : Int)) (- rd l (j : Int)))
theorem absMost_range (l : List Int) (B : Int) (hB : 0 ≤ B) (h : Bd l B) : ∀ j, j ≤ l.length → 0 ≤ absMost l j ∧ absMost l j ≤ B
  | 0, _ => by simp [absMost]; omega
  | j + 1, hj => by
    have h1 := absMost_range l B hB h j (by omega)
    have h2 := h.out j (by omega)
    rw [absMost, bigMax_max, bigMax_max]
    omega
theorem absMost_ge (l : List Int) : ∀ n j, j < n → - absMost l n ≤ rd l (j : Int) ∧ rd l (j : Int) ≤ absMost l n
  | 0, j, hj => by omega
  | n + 1, j, hj => by
    rw [absMost, bigMax_max, bigMax_max]
    rcases Nat.lt_or_ge j n with h | h
    · have := absMost_ge l n j h; omega
    · obtain rfl : j = n := by omega
      omega
theorem resAt_bd (u f : List Int) (k : Int) (n j : Nat) (hu : Bd u 1000000000000000) (hf : Bd f 1000000000000000) (hn : n ≤ u.length) (hn2 : n ≤ f.length) (hk0 : 0 ≤ k) (hk1 : k ≤ 1000) (hj : j < n) :
    -4002000000000000000 ≤ resAt u f k n j ∧ resAt u f k n j ≤ 4002000000000000000 := by
  have h0 := near_range u n j hu hn hj
  have hx := hu.out j (by omega)
  have hy := hf.out j (by omega)
  have hd := nearCnt_range n j
  have h1 := mul_range (a := k) (b := nearCnt n j) (A := 1000) (B := 2) (by omega) (by omega) (by omega) (by omega) (by omega)
  have h1' : 0 ≤ k * nearCnt n j := Int.mul_nonneg hk0 hd.1
  have h2 := mul_range (a := 1 + k * nearCnt n j) (b := rd u (j : Int)) (A := 2001) (B := 1000000000000000) (by omega) (by omega) (by omega) (by omega) (by omega)
  have h3 := mul_range (a := k) (b := leftOf u j + rightOf u n j) (A := 1000) (B := 2000000000000000) (by omega) (by omega) (by omega) (by omega) (by omega)
  unfold resAt
  omega
theorem resTo_rd (u f : List Int) (k : Int) (n m j : Nat) (hj : j < m) : rd (resTo u f k n m) (j : Int) = resAt u f k n j := by
  rw [rd_nat, List.getD_eq_getElem?_getD, resTo]
  simp [hj]
theorem resTo_bd (u f : List Int) (k : Int) (n : Nat) (hu : Bd u 1000000000000000) (hf : Bd f 1000000000000000) (hn : n ≤ u.length) (hn2 : n ≤ f.length) (hk0 : 0 ≤ k) (hk1 : k ≤ 1000) : Bd (resTo u f k n n) 4002000000000000000 :=
  ⟨fun j hj => by
    rw [resTo_length] at hj
    rw [resTo_rd u f k n n j hj]
    exact resAt_bd u f k n j hu hf hn hn2 hk0 hk1 hj⟩
attribute [local go_sem] go_max2
theorem impl_absolute (x : Int) (w : World) (h : -9223372036854775807 ≤ x ∧ x ≤ 9223372036854775807) :
    Calls Try.prog 55 #[.int .i64 x] w fun e w' => e = .returned (.int .i64 (bigMax x (-x))) ∧ w = w' := by
  have i1 : wrap64 (-x) = -x := w64 (by omega) (by omega)
  obtain ⟨h1, h2⟩ := h
  go_enter Try.func55, Try.ntmps55
  go_wp2
  go_ret
  exact ⟨rfl, rfl⟩
set_option maxHeartbeats 4000000 in
theorem impl_errorBound (A : Option Addr) (n c : Nat) (u : List Int) (B : Option Addr) (m d : Nat) (f : List Int) (k : Int) (w : World) (r : RI w A n u) (q : RI w B m f) (hnm : n ≤ m) (hn : n ≤ 1000000)
    (hu : Bd u 1000000000000000) (hf : Bd f 1000000000000000) (hk0 : 0 ≤ k) (hk1 : k ≤ 1000) :
    Calls Try.prog 32 #[.slice A n c, .slice B m d, .int .i64 k] w fun e w' => e = .returned (.int .i64 (absMost (resTo u f k n n) n)) ∧ Bw w w' := by
  have hb := hid (resTo_bd u f k n hu hf (by rw [r.len]; omega) (by rw [q.len]; omega) hk0 hk1)
  have hlen := hid (resTo_length u f k n n)
  obtain ⟨R, HR⟩ : ∃ R, Hid (R = absMost (resTo u f k n n) n) := ⟨_, hid rfl⟩
  rw [← HR.out]
  have HU := hid hu
  have HF := hid hf
  clear hu hf
  go_enter Try.func32, Try.ntmps32
  go_wp2_with fail
  refine (impl_residual A n c u B m d f k _ r q hnm hn HU.out HF.out hk0 hk1).mono ?_
  rintro e w1 ⟨v, rfl, o, b⟩
  obtain ⟨C, e, rfl, rr⟩ := o.reads
  generalize resTo u f k n n = L at *
  go_wp2
  go_loopw [7, 15] (fun v7 v15 wr => ∃ j : Nat, j ≤ n ∧ v7 = .int .i64 (absMost L j) ∧ v15 = .int .i64 j ∧ w1 = wr) (fun _ v15 _ => n - (intOf v15).toNat)
  case atStart => exact ⟨0, by omega, rfl, rfl, rfl⟩
  case round =>
    obtain ⟨j, hj, rfl, rfl, rfl⟩ := hrel
    by_cases hlt : j < n
    · have t1 : decide ((j : Int) < (n : Int)) = true := decide_eq_true (by omega)
      obtain ⟨ad, rfl, hc0⟩ := rr.nat j hlt
      have hx := hb.out.out j (by rw [hlen.out]; exact hlt)
      have hs : Hid (absMost L (j + 1) = bigMax (absMost L j) (bigMax (rd L (j : Int)) (- rd L (j : Int)))) := hid rfl
      generalize rd L (j : Int) = x at *
      generalize absMost L j = M at *
      go_wp2_with fail
      refine (impl_absolute x _ (by omega)).mono ?_
      rintro e w2 ⟨rfl, rfl⟩
      go_wp2
      go_roundw
      case rel => exact ⟨j + 1, by omega, by rw [hs.out], by go_num, by trivial⟩
      case measure => simp [intOf]; omega
    · obtain rfl : j = n := by omega
      have t1 : decide ((j : Int) < (j : Int)) = false := decide_eq_false (by omega)
      go_wp2
      go_ret
      exact ⟨ret_int HR.out.symm, b⟩
/-- What ErrorBound answers. -/
def errB (u f : List Int) (k : Int) : Int := if sysOk u f k = true then absMost (resTo u f k u.length u.length) u.length else -1
end Go.Proofs.Ytpnciejalcdgeaa.U
