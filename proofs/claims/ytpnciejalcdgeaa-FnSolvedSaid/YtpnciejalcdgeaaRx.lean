
/- A sweep over the unknowns, by the program. -/
import Derived.Test.YtpnciejalcdgeaaRe
import Derived.Test.YtpnciejalcdgeaaDn
import Derived.Test.YtpnciejalcdgeaaCn
set_option linter.unusedVariables false
set_option linter.unusedSimpArgs false
namespace Go.Proofs.Ytpnciejalcdgeaa.U
open Go.RowKit Go.Lib Go.Proofs.YtpnciejalcdgeaaW.PrintWords

/-- the value that a sweep writes at place j -/
def relAt (u f : List Int) (k : Int) (n j : Nat) : Int := divNear (rd f (j : Int) + k * (leftOf u j + rightOf u n j)) (1 + k * nearCnt n j)
/-- the unknowns after a sweep over the first places -/
def relTo (u f : List Int) (k : Int) (n : Nat) : Nat → List Int
  | 0 => u
  | j + 1 => (relTo u f k n j).set j (relAt (relTo u f k n j) f k n j)
theorem relTo_length (u f : List Int) (k : Int) (n : Nat) : ∀ j, (relTo u f k n j).length = u.length
  | 0 => rfl
  | j + 1 => by rw [relTo, List.length_set, relTo_length u f k n j]
theorem near_by (u : List Int) (n j : Nat) (B : Int) (hB : 0 ≤ B) (hu : Bd u B) (hn : n ≤ u.length) (hj : j < n) : -(nearCnt n j * B) ≤ leftOf u j + rightOf u n j ∧ leftOf u j + rightOf u n j ≤ nearCnt n j * B := by
  unfold leftOf rightOf nearCnt
  by_cases h1 : 0 < j
  · have a := hu.out (j - 1) (by omega)
    by_cases h2 : j + 1 < n
    · have b := hu.out (j + 1) (by omega)
      simp only [h1, h2, if_true]
      omega
    · simp only [h1, h2, if_true, if_false]
      omega
  · by_cases h2 : j + 1 < n
    · have b := hu.out (j + 1) (by omega)
      simp only [h1, h2, if_true, if_false]
      omega
    · simp only [h1, h2, if_false]
      omega
theorem divNear_bd (a b B : Int) (hb : 1 ≤ b) (h1 : -(b * B) ≤ a) (h2 : a ≤ b * B) : -B ≤ divNear a b ∧ divNear a b ≤ B := by
  unfold divNear
  constructor
  · refine Int.le_ediv_of_mul_le (by omega) ?_
    have : -B * (2 * b) = -(2 * (b * B)) := by rw [Int.neg_mul, Int.mul_comm B, Int.mul_assoc]
    omega
  · refine Int.lt_add_one_iff.1 (Int.ediv_lt_of_lt_mul (by omega) ?_)
    have : (B + 1) * (2 * b) = 2 * (b * B) + 2 * b := by rw [Int.add_mul, Int.one_mul, Int.mul_comm B, Int.mul_assoc]
    omega
theorem relAt_parts (u f : List Int) (k : Int) (n j : Nat) (B : Int) (hB : 0 ≤ B) (hu : Bd u B) (hf : Bd f B) (hn : n ≤ u.length) (hn2 : n ≤ f.length) (hk0 : 0 ≤ k) (hj : j < n) :
    -((1 + k * nearCnt n j) * B) ≤ rd f (j : Int) + k * (leftOf u j + rightOf u n j) ∧ rd f (j : Int) + k * (leftOf u j + rightOf u n j) ≤ (1 + k * nearCnt n j) * B := by
  have h0 := near_by u n j B hB hu hn hj
  have hy := hf.out j (by omega)
  have h1 := Int.mul_le_mul_of_nonneg_left h0.1 hk0
  have h2 := Int.mul_le_mul_of_nonneg_left h0.2 hk0
  rw [Int.mul_neg, ← Int.mul_assoc] at h1
  rw [← Int.mul_assoc] at h2
  rw [Int.add_mul, Int.one_mul]
  omega
theorem relTo_bd (u f : List Int) (k : Int) (n : Nat) (B : Int) (hB : 0 ≤ B) (hu : Bd u B) (hf : Bd f B) (hn : n ≤ u.length) (hn2 : n ≤ f.length) (hk0 : 0 ≤ k) : ∀ j, j ≤ n → Bd (relTo u f k n j) B
  | 0, _ => hu
  | j + 1, hj => by
    have ih := relTo_bd u f k n B hB hu hf hn hn2 hk0 j (by omega)
    have hlen := relTo_length u f k n j
    have hp := relAt_parts (relTo u f k n j) f k n j B hB ih hf (by omega) hn2 hk0 (by omega)
    have h1' : 0 ≤ k * nearCnt n j := Int.mul_nonneg hk0 (nearCnt_range n j).1
    have hv := divNear_bd _ _ B (by omega) hp.1 hp.2
    refine ⟨fun i hi => ?_⟩
    rw [relTo, rd_nat, List.getD_eq_getElem?_getD, List.getElem?_set]
    rw [relTo, List.length_set] at hi
    split
    · rename_i h
      split
      · exact hv
      · omega
    · have := ih.out i hi
      rwa [rd_nat, List.getD_eq_getElem?_getD] at this
/-- the numbers on the way to one element, none of which wraps -/
structure RelWay (k d y s ks Y kd t : Int) : Prop where
  e1 : wrap64 (k * s) = ks
  e2 : wrap64 (y + ks) = Y
  e3 : wrap64 (k * d) = kd
  e4 : wrap64 (1 + kd) = t
  t1 : 1 ≤ t
  t2 : t ≤ 2147483647
  y1 : -1000000000000000 ≤ Y
  y2 : Y ≤ 1000000000000000
theorem relWay (k d y s : Int) (hk0 : 0 ≤ k) (hk1 : k ≤ 1000) (hd0 : 0 ≤ d) (hd1 : d ≤ 2) (hy0 : -1000000000 ≤ y) (hy1 : y ≤ 1000000000) (hs0 : -2000000000 ≤ s) (hs1 : s ≤ 2000000000) :
    ∃ ks kd, RelWay k d y s ks (y + k * s) kd (1 + k * d) := by
  have h1 := mul_range (a := k) (b := d) (A := 1000) (B := 2) (by omega) (by omega) (by omega) (by omega) (by omega)
  have h1' : 0 ≤ k * d := Int.mul_nonneg hk0 hd0
  have h3 := mul_range (a := k) (b := s) (A := 1000) (B := 2000000000) (by omega) (by omega) (by omega) (by omega) (by omega)
  exact ⟨k * s, k * d, w64 (by omega) (by omega), w64 (by omega) (by omega), w64 (by omega) (by omega), w64 (by omega) (by omega), by omega, by omega, by omega, by omega⟩
theorem OI.form {w : World} {base n c : Nat} {A : Option Addr} {l : List Int} (h : OI w base (.slice A n c) n l) (hn : 0 < n) : ∃ g, A = some ⟨g, 0, none⟩ ∧ base ≤ g ∧ (Value.slice A n c).ownBlock = some g := by
  obtain ⟨g, cap, e, hgb, hgl⟩ := h.out.form (by omega)
  obtain ⟨rfl, rfl⟩ : A = some ⟨g, 0, none⟩ ∧ c = cap := by injection e with e1 _ e3; exact ⟨e1, e3⟩
  exact ⟨g, rfl, hgb, rfl⟩
theorem OI.store {w : World} {base n c g : Nat} {l : List Int} (h : OI w base (.slice (some ⟨g, 0, none⟩) n c) n l) (j : Nat) (x : Int) : OI (w.setCell ⟨g, j, none⟩ (.int .i64 x)) base (.slice (some ⟨g, 0, none⟩) n c) n (l.set j x) := by
  have hs := (own_store h.out (j : Int) x).1
  rw [Int.toNat_natCast] at hs
  exact ⟨hs⟩
theorem OI.at {w : World} {base n c g : Nat} {l : List Int} (h : OI w base (.slice (some ⟨g, 0, none⟩) n c) n l) (j : Nat) (hj : j < n) : (∃ x, w.cell? ⟨g, j, none⟩ = some x) ∧ w.frozen? ⟨g, j, none⟩ = false := by
  have hl := h.len
  have := own_at h.out (j : Int) (by omega) (by omega)
  rw [Int.toNat_natCast] at this
  exact ⟨⟨_, this.1⟩, this.2⟩
theorem Bw.store {w w1 : World} {g : Nat} (h : Bw w w1) (hg : w.heap.size ≤ g) (i : Nat) (u : Value) : Bw w (w1.setCell ⟨g, i, none⟩ u) := ⟨h.out.setCell (p := ⟨g, i, none⟩) hg u⟩

set_option maxRecDepth 100000 in
set_option maxHeartbeats 8000000 in
theorem impl_relax (A : Option Addr) (n c : Nat) (u : List Int) (B : Option Addr) (m d : Nat) (f : List Int) (k : Int) (w : World) (r : RI w A n u) (q : RI w B m f) (hnm : n = m) (hn : n ≤ 1000000)
    (hu : Bd u 1000000000) (hf : Bd f 1000000000) (hk0 : 0 ≤ k) (hk1 : k ≤ 1000) :
    Calls Try.prog 47 #[.slice A n c, .slice B m d, .int .i64 k] w fun e w' => ∃ v, e = .returned v ∧ OI w' w.heap.size v n (relTo u f k n n) ∧ Bw w w' := by
  obtain rfl := hnm
  have hlu := r.len
  have hlf := q.len
  have HB := hid (fun j (hj : j ≤ n) => relTo_bd u f k n 1000000000 (by omega) hu hf (by omega) (by omega) hk0 j hj)
  have HL := hid (relTo_length u f k n)
  have HU := hid hlu
  have HF := hid hlf
  have HFB := hid hf
  clear hlu hlf hu hf
  obtain ⟨R, HR⟩ : ∃ R, Hid (R = relTo u f k n n) := ⟨_, hid rfl⟩
  rw [← HR.out]
  go_enter Try.func47, Try.ntmps47
  go_wp2_with fail
  refine (cloneInts A n c u _ r (by omega)).mono ?_
  rintro e w1 ⟨v, rfl, o, b⟩
  obtain ⟨Ao, co, rfl, _⟩ := o.reads
  go_wp2
  go_loopw [15] (fun v15 wr => ∃ j : Nat, j ≤ n ∧ v15 = .int .i64 j ∧ Hid (OI wr w.heap.size (.slice Ao n co) n (relTo u f k n j)) ∧ Hid (Bw w wr)) (fun v15 _ => n - (intOf v15).toNat)
  case atStart => exact ⟨0, by omega, rfl, hid o, hid b⟩
  case round =>
    obtain ⟨j, hj, rfl, hO, hB⟩ := hrel
    by_cases hlt : j < n
    · have t1 : decide ((j : Int) < (n : Int)) = true := decide_eq_true (by omega)
      have hbd := HB.out j (by omega)
      have hs := near_by (relTo u f k n j) n j 1000000000 (by omega) hbd (by rw [HL.out, HU.out]; exact Nat.le_refl _) hlt
      have hd := nearCnt_range n j
      have hy := HFB.out.out j (by rw [HF.out]; exact hlt)
      have hnext := hid (show relTo u f k n (j + 1) = (relTo u f k n j).set j (divNear (rd f (j : Int) + k * (leftOf (relTo u f k n j) j + rightOf (relTo u f k n j) n j)) (1 + k * nearCnt n j)) from rfl)
      obtain ⟨ks, kd, hway⟩ := relWay k (nearCnt n j) (rd f (j : Int)) (leftOf (relTo u f k n j) j + rightOf (relTo u f k n j) n j) hk0 hk1 hd.1 hd.2 hy.1 hy.2 (by omega) (by omega)
      go_wp2_with fail
      refine (impl_around Ao n co (relTo u f k n j) j _ hO.out.ri hlt (hbd.mono (by omega)) hn).mono ?_
      rintro e w2 ⟨rfl, b2⟩
      have hO2 := hO.out.to b2
      have hB2 := hB.out.trans b2
      obtain ⟨g, hg, hgb, _⟩ := hO2.form (by omega)
      subst hg
      obtain ⟨⟨x0, ho1⟩, ho2⟩ := hO2.at j hlt
      obtain ⟨ad, rfl, hc⟩ := (q.to hB2).nat j hlt
      have HO2 := hid hO2
      have HB2 := hid hB2
      clear hO2 hB2 b2 hs hd hy hbd
      generalize rd f (j : Int) + k * (leftOf (relTo u f k n j) j + rightOf (relTo u f k n j) n j) = Y at *
      generalize rd f (j : Int) = y at *
      generalize leftOf (relTo u f k n j) j + rightOf (relTo u f k n j) n j = s at *
      generalize 1 + k * nearCnt n j = t at *
      generalize nearCnt n j = dd at *
      obtain ⟨e1, e2, e3, e4, e5, e6, e7, e8⟩ := hway
      go_wp2_with fail
      refine (impl_DivNear _ _ _ e5 e6 e7 e8).mono ?_
      rintro e w3 ⟨rfl, rfl⟩
      generalize divNear Y t = z at *
      go_wp2
      go_roundw
      case rel => exact ⟨j + 1, by omega, by go_num, hid (by rw [hnext.out]; exact HO2.out.store j z), hid (HB2.out.store hgb j _)⟩
      case measure => simp [intOf]; omega
    · obtain rfl : j = n := by omega
      have t1 : decide ((j : Int) < (j : Int)) = false := decide_eq_false (by omega)
      go_wp2
      go_ret
      exact ⟨_, rfl, by rw [HR.out]; exact hO.out, hB.out⟩

/-- What Relax answers. -/
def relL (u f : List Int) (k : Int) : List Int := if sysOk u f k = true then relTo u f k u.length u.length else []
theorem relL_len (u f : List Int) (k : Int) : (relL u f k).length ≤ 1048576 := by
  unfold relL
  split
  · rename_i h
    have := sysOk_facts h
    rw [relTo_length]
    omega
  · simp
end Go.Proofs.Ytpnciejalcdgeaa.U
