
/- Residual of the program and of the reference. -/
import Derived.Test.YtpnciejalcdgeaaSy
import Derived.Test.YtpnciejalcdgeaaNr
import Derived.Test.YtpnciejalcdgeaaAp
set_option linter.unusedVariables false
set_option linter.unusedSimpArgs false
namespace Go.Proofs.Ytpnciejalcdgeaa.U
open Go.RowKit Go.Lib Go.Proofs.YtpnciejalcdgeaaW.PrintWords

def resAt (u f : List Int) (k : Int) (n i : Nat) : Int := rd f (i : Int) - (1 + k * nearCnt n i) * rd u (i : Int) + k * (leftOf u i + rightOf u n i)
def resTo (u f : List Int) (k : Int) (n j : Nat) : List Int := (List.range j).map (resAt u f k n)
theorem resTo_snoc (u f : List Int) (k : Int) (n j : Nat) : resTo u f k n (j + 1) = resTo u f k n j ++ [resAt u f k n j] := by simp [resTo, List.range_succ]
theorem near_range (u : List Int) (n j : Nat) (hu : Bd u 1000000000000000) (hn : n ≤ u.length) (hj : j < n) : -2000000000000000 ≤ leftOf u j + rightOf u n j ∧ leftOf u j + rightOf u n j ≤ 2000000000000000 := by
  have h1 : -1000000000000000 ≤ leftOf u j ∧ leftOf u j ≤ 1000000000000000 := by
    unfold leftOf
    split
    · exact hu.out (j - 1) (by omega)
    · omega
  have h2 : -1000000000000000 ≤ rightOf u n j ∧ rightOf u n j ≤ 1000000000000000 := by
    unfold rightOf
    split
    · exact hu.out (j + 1) (by omega)
    · omega
  omega
/-- the numbers on the way to one element, none of which wraps -/
structure ResWay (k d x y s kd t p q ks R : Int) : Prop where
  e1 : IntKind.i64.wrap (k * d) = kd
  e2 : IntKind.i64.wrap (1 + kd) = t
  e3 : IntKind.i64.wrap (t * x) = p
  e4 : IntKind.i64.wrap (y - p) = q
  e5 : IntKind.i64.wrap (k * s) = ks
  e6 : IntKind.i64.wrap (q + ks) = R
theorem resWay (k d x y s : Int) (hk0 : 0 ≤ k) (hk1 : k ≤ 1000) (hd0 : 0 ≤ d) (hd1 : d ≤ 2) (hx0 : -1000000000000000 ≤ x) (hx1 : x ≤ 1000000000000000) (hy0 : -1000000000000000 ≤ y) (hy1 : y ≤ 1000000000000000)
    (hs0 : -2000000000000000 ≤ s) (hs1 : s ≤ 2000000000000000) : ∃ kd t p q ks, ResWay k d x y s kd t p q ks (y - (1 + k * d) * x + k * s) := by
  have h1 := mul_range (a := k) (b := d) (A := 1000) (B := 2) (by omega) (by omega) (by omega) (by omega) (by omega)
  have h1' : 0 ≤ k * d := Int.mul_nonneg hk0 hd0
  have h2 := mul_range (a := 1 + k * d) (b := x) (A := 2001) (B := 1000000000000000) (by omega) (by omega) (by omega) (by omega) (by omega)
  have h3 := mul_range (a := k) (b := s) (A := 1000) (B := 2000000000000000) (by omega) (by omega) (by omega) (by omega) (by omega)
  exact ⟨k * d, 1 + k * d, (1 + k * d) * x, y - (1 + k * d) * x, k * s, i64w (by omega) (by omega), i64w (by omega) (by omega), i64w (by omega) (by omega), i64w (by omega) (by omega), i64w (by omega) (by omega), i64w (by omega) (by omega)⟩
set_option maxRecDepth 100000 in
set_option maxHeartbeats 4000000 in
theorem impl_residual (A : Option Addr) (n c : Nat) (u : List Int) (B : Option Addr) (m d : Nat) (f : List Int) (k : Int) (w : World) (r : RI w A n u) (q : RI w B m f) (hnm : n ≤ m) (hn : n ≤ 1000000)
    (hu : Bd u 1000000000000000) (hf : Bd f 1000000000000000) (hk0 : 0 ≤ k) (hk1 : k ≤ 1000) :
    Calls Try.prog 54 #[.slice A n c, .slice B m d, .int .i64 k] w fun e w' => ∃ v, e = .returned v ∧ OI w' w.heap.size v n (resTo u f k n n) ∧ Bw w w' := by
  have hl := hid r.len
  have hl2 := hid q.len
  obtain ⟨i0, hi0, hz0, hz1, hz2⟩ := info_parts info_int
  have hmax := r.max
  go_enter Try.func54, Try.ntmps54
  go_wp2
  have o0 : OI (w.alloc (.cells #[] 3)) w.heap.size (.slice (some ⟨w.heap.size, 0, none⟩) 0 0) 0 [] := ⟨own_lit w w.heap.size 3 .i64 [] (Nat.le_refl _) (by simp)⟩
  have b0 : Bw w (w.alloc (.cells #[] 3)) := ⟨below_alloc (Below.refl _ _) _⟩
  generalize w.alloc (.cells #[] 3) = W0 at *
  go_loopw [7, 14] (fun v i wr => ∃ j : Nat, j ≤ n ∧ i = .int .i64 j ∧ OI wr w.heap.size v j (resTo u f k n j) ∧ Bw w wr) (fun _ i _ => n - (intOf i).toNat)
  case atStart => exact ⟨0, by omega, rfl, o0, b0⟩
  case round =>
    obtain ⟨j, hj, rfl, hO, hB⟩ := hrel
    by_cases hlt : j < n
    · go_wp2_with fail
      refine (impl_around A n c u j _ (r.to hB) hlt hu hn).mono ?_
      rintro e w1 ⟨rfl, b1⟩
      replace hO := hO.to b1
      replace hB := hB.trans b1
      clear b1
      go_wp2
      obtain ⟨ad, rfl, hc⟩ := (r.to hB).nat j hlt
      obtain ⟨ae, rfl, hc2⟩ := (q.to hB).nat j (by omega)
      have hx := hu.out j (by rw [hl.out]; omega)
      have hy := hf.out j (by rw [hl2.out]; omega)
      have hs := near_range u n j hu (by rw [hl.out]; exact Nat.le_refl _) hlt
      have hd := nearCnt_range n j
      obtain ⟨kd, t, p, q', ks, hway⟩ := resWay k (nearCnt n j) (rd u (j : Int)) (rd f (j : Int)) (leftOf u j + rightOf u n j) hk0 hk1 hd.1 hd.2 hx.1 hx.2 hy.1 hy.2 hs.1 hs.2
      have hR : Hid (resTo u f k n (j + 1) = resTo u f k n j ++ [rd f (j : Int) - (1 + k * nearCnt n j) * rd u (j : Int) + k * (leftOf u j + rightOf u n j)]) := hid (resTo_snoc u f k n j)
      generalize rd f (j : Int) - (1 + k * nearCnt n j) * rd u (j : Int) + k * (leftOf u j + rightOf u n j) = R at *
      generalize rd u (j : Int) = x at *
      generalize rd f (j : Int) = y at *
      generalize leftOf u j + rightOf u n j = s at *
      generalize nearCnt n j = dd at *
      obtain ⟨e1, e2, e3, e4, e5, e6⟩ := hway
      have hown := hO.out
      have hbase := hB.size
      have hj0 : (0 : Int) ≤ (j : Int) := by omega
      have hj1 : (j : Int) < (n : Int) := by omega
      have hj2 : (j : Int) < (m : Int) := by omega
      obtain ⟨_, ead, hca⟩ := r.nat j hlt
      obtain rfl := Option.some.inj ead
      obtain ⟨_, eae, hcb⟩ := q.nat j (by omega)
      obtain rfl := Option.some.inj eae
      have hne1 := own_far hown hca
      have hne2 := own_far hown hcb
      clear hx hy hs hd hO ead eae hca hcb
      go_region_held3 (fun w' => w'.cell? (ad.add j) = some (.int .i64 x) ∧ w'.cell? (ae.add j) = some (.int .i64 y))
        (first | go_keep | (go_split_ands; exact ⟨hgrow.cell (by assumption) hne1, hgrow.cell (by assumption) hne2⟩))
        ((refine step_append_lies _ (by rfl) _ _ _ (by rfl) w.heap.size 3 i0 _ 1 8 Try.underlying24 hi0 hz0 hz1 hz2 rfl (by omega) _ j _ (by rfl) ((hown.alloc _).drew) ⟨w1.heap.size, 0, none⟩ 1 1 [.int .i64 R] (by rfl) (by rfl) (World.news_of_block (cs := #[.int .i64 R]) (t := 3) (fr := (0, 0)) (heap_alloc_new w1 _)) (by simp [Value.oneCell']) (by omega) (by simp [maxLen]; omega) (by omega) (by simp; omega) (w1.heap.size + 1) (by simp) ?_; intro gg cap w2 hown1 hgrow hat hlt2))
      go_wp2
      go_roundw
      case rel => exact ⟨j + 1, by omega, by go_num, by rw [hR.out]; exact OI.snoc hown1, hB.app hown (Nat.le_refl _) hgrow⟩
      case measure => simp [intOf]; omega
    · obtain rfl : j = n := by omega
      go_wp2
      go_ret
      exact ⟨_, rfl, hO, hB⟩
def residualL (u f : List Int) (k : Int) : List Int := if sysOk u f k = true then resTo u f k u.length u.length else []
theorem sysOk_facts {u f : List Int} {k : Int} (h : sysOk u f k = true) : u.length = f.length ∧ (1 ≤ u.length ∧ u.length ≤ 64) ∧ Bd u 1000000000 ∧ Bd f 1000000000 ∧ 0 ≤ k ∧ k ≤ 1000 := by
  simp only [sysOk, Bool.and_eq_true, decide_eq_true_eq, inR_iff] at h
  obtain ⟨⟨⟨h1, h2⟩, h3⟩, h4⟩ := h
  have a := unkOk_iff.1 h2
  have b := unkOk_iff.1 h3
  exact ⟨h1, a.1, Bd.of_mem a.2, Bd.of_mem b.2, h4⟩
theorem Bd.mono {l : List Int} {B C : Int} (h : Bd l B) (hBC : B ≤ C) : Bd l C := ⟨fun j hj => by have := h.out j hj; omega⟩
theorem resTo_length (u f : List Int) (k : Int) (n j : Nat) : (resTo u f k n j).length = j := by simp [resTo]
theorem residualL_len (u f : List Int) (k : Int) : (residualL u f k).length ≤ 1048576 := by
  unfold residualL
  split
  · rename_i h
    have := sysOk_facts h
    rw [resTo_length]
    omega
  · simp
set_option maxRecDepth 100000 in
set_option maxHeartbeats 4000000 in
theorem spec_Residual (A : Option Addr) (n c : Nat) (u : List Int) (B : Option Addr) (m d : Nat) (f : List Int) (k : Int) (w : World) (r : RI w A n u) (q : RI w B m f) :
    Calls Try.prog 35 #[.slice A n c, .slice B m d, .int .i64 k] w fun e w' => ∃ v, e = .returned v ∧ OI w' w.heap.size v (residualL u f k).length (residualL u f k) ∧ Bw w w' := by
  have hl := r.len
  have hl2 := q.len
  cases hs : sysOk u f k with
  | false =>
    rw [show residualL u f k = [] by simp [residualL, hs]]
    have HS := hid hs; clear hs hl hl2
    have o0 := OI.lit0 w w.heap.size (Nat.le_refl _)
    have b0 : Bw w (w.alloc (.cells #[] 3)) := (Bw.refl w).alloc _
    go_enter Try.func35, Try.ntmps35
    go_wp2_with fail
    refine (spec_SystemOk A n c u B m d f k _ (r.to b0) (q.to b0)).mono ?_
    rintro e w1 ⟨rfl, b⟩
    rw [HS.out]
    go_wp2
    go_ret
    exact ⟨_, rfl, o0.to (Bw.drawn b), b0.trans (Bw.drawn b)⟩
  | true =>
    obtain ⟨f1, f2, f3, f4, hk0, hk1⟩ := sysOk_facts hs
    rw [show residualL u f k = resTo u f k n n by simp [residualL, hs, hl], resTo_length]
    rw [hl] at f1 f2
    rw [hl2] at f1
    obtain ⟨i0, hi0, hz0, hz1, hz2⟩ := info_parts info_int
    have HS := hid hs; clear hs
    have HL := hid hl; clear hl
    have HL2 := hid hl2; clear hl2
    obtain ⟨f7, f8⟩ := f2
    obtain rfl : n = m := f1
    have hu := f3.mono (C := 1000000000000000) (by omega)
    have hf := f4.mono (C := 1000000000000000) (by omega)
    clear f3 f4
    have o0 := OI.lit0 w w.heap.size (Nat.le_refl _)
    have b0 : Bw w (w.alloc (.cells #[] 3)) := (Bw.refl w).alloc _
    go_enter Try.func35, Try.ntmps35
    go_wp2_with fail
    refine (spec_SystemOk A n c u B n d f k _ (r.to b0) (q.to b0)).mono ?_
    rintro e w1 ⟨rfl, b⟩
    rw [HS.out]
    replace o0 := o0.to (Bw.drawn b)
    replace b0 := b0.trans (Bw.drawn b)
    clear b
    go_wp2
    go_loopw [7, 8] (fun v i wr => ∃ j : Nat, j ≤ n ∧ i = .int .i64 j ∧ OI wr w.heap.size v j (resTo u f k n j) ∧ Bw w wr) (fun _ i _ => n - (intOf i).toNat)
    case atStart => exact ⟨0, by omega, rfl, o0, b0⟩
    case round =>
      obtain ⟨j, hj, rfl, hO, hB⟩ := hrel
      by_cases hlt : j < n
      · go_wp2_with fail
        refine (l20Near A n c u j _ (r.to hB) hlt hu (by omega)).mono ?_
        rintro e w1 ⟨rfl, rfl⟩
        go_wp2
        obtain ⟨ad, rfl, hc⟩ := (r.to hB).nat j hlt
        obtain ⟨ae, rfl, hc2⟩ := (q.to hB).nat j (by omega)
        have hx := hu.out j (by rw [HL.out]; omega)
        have hy := hf.out j (by rw [HL2.out]; omega)
        have hs := near_range u n j hu (by rw [HL.out]; exact Nat.le_refl _) hlt
        have hd := nearCnt_range n j
        obtain ⟨kd, t, p, q', ks, hway⟩ := resWay k (nearCnt n j) (rd u (j : Int)) (rd f (j : Int)) (leftOf u j + rightOf u n j) hk0 hk1 hd.1 hd.2 hx.1 hx.2 hy.1 hy.2 hs.1 hs.2
        have hR : Hid (resTo u f k n (j + 1) = resTo u f k n j ++ [rd f (j : Int) - (1 + k * nearCnt n j) * rd u (j : Int) + k * (leftOf u j + rightOf u n j)]) := hid (resTo_snoc u f k n j)
        generalize rd f (j : Int) - (1 + k * nearCnt n j) * rd u (j : Int) + k * (leftOf u j + rightOf u n j) = R at *
        generalize rd u (j : Int) = x at *
        generalize rd f (j : Int) = y at *
        generalize leftOf u j + rightOf u n j = s at *
        generalize nearCnt n j = dd at *
        obtain ⟨e1, e2, e3, e4, e5, e6⟩ := hway
        have hown := hO.out
        have hbase := hB.size
        have hj0 : (0 : Int) ≤ (j : Int) := by omega
        have hj1 : (j : Int) < (n : Int) := by omega
        obtain ⟨_, ead, hca⟩ := r.nat j hlt
        obtain rfl := Option.some.inj ead
        obtain ⟨_, eae, hcb⟩ := q.nat j (by omega)
        obtain rfl := Option.some.inj eae
        have hne1 := own_far hown hca
        have hne2 := own_far hown hcb
        clear hx hy hs hd hO ead eae hca hcb
        go_region_held3 (fun w' => w'.cell? (ad.add j) = some (.int .i64 x) ∧ w'.cell? (ae.add j) = some (.int .i64 y))
          (first | go_keep | (go_split_ands; exact ⟨hgrow.cell (by assumption) hne1, hgrow.cell (by assumption) hne2⟩))
          ((refine step_append_lies _ (by rfl) _ _ _ (by rfl) w.heap.size 3 i0 _ 1 8 Try.underlying24 hi0 hz0 hz1 hz2 rfl (by omega) _ j _ (by rfl) ((hown.alloc _).drew) ⟨wr.heap.size, 0, none⟩ 1 1 [.int .i64 R] (by rfl) (by rfl) (World.news_of_block (cs := #[.int .i64 R]) (t := 3) (fr := (0, 0)) (heap_alloc_new wr _)) (by simp [Value.oneCell']) (by omega) (by simp [maxLen]; omega) (by omega) (by simp; omega) (wr.heap.size + 1) (by simp) ?_; intro gg cap w2 hown1 hgrow hat hlt2))
        go_wp2
        go_roundw
        case rel => exact ⟨j + 1, by omega, by go_num, by rw [hR.out]; exact OI.snoc hown1, hB.app hown (Nat.le_refl _) hgrow⟩
        case measure => simp [intOf]; omega
      · obtain rfl : j = n := by omega
        go_wp2
        go_ret
        exact ⟨_, rfl, hO, hB⟩
end Go.Proofs.Ytpnciejalcdgeaa.U
