
/- Missing of the reference. -/
import Derived.Test.YtcdibjneoemidaaKo
set_option linter.unusedVariables false
set_option linter.unusedSimpArgs false
namespace Go.Proofs.Ytcdibjneoemidaa.U
open Go.RowKit Go.Lib Go.Proofs.YtcdibjneoemidaaW.PrintWords

open Go.Proofs.YtcdibjneoemidaaW.PrintLast Go.Proofs.YtcdibjneoemidaaW.PrintMore
theorem posP_low {e : List Pk} {a : Int} (h : okFrom e a = true) : posP e a = 0 := by
  cases e with
  | nil => rfl
  | cons b r =>
    rw [okFrom_cons] at h
    rw [posP, if_neg (by omega)]
set_option maxHeartbeats 4000000 in
set_option maxRecDepth 100000 in
theorem spec_Missing (x : Value) (s : Ib) (u : Int) (w : World) (hx : IbR w x s) (ho : ibOk s = true) (hu : u ≤ 2000) :
    Calls Try.prog 47 #[x, .int .i64 u] w fun e w' => ∃ v, e = .returned v ∧ OI w' w.heap.size v (misS s u).length (misS s u) ∧ Bw w w' := by
  have hx0 := hx
  obtain ⟨A, c, B, d, rfl, r, q, _, _⟩ := hx
  have hol := (ibOk_len ho).1
  have hoe := (ibOk_len ho).2
  obtain ⟨a, ha⟩ : ∃ a, s.g.length = a := ⟨_, rfl⟩
  obtain ⟨N, hN⟩ : ∃ N, misN s u = N := ⟨_, rfl⟩
  have hN2 : (u - (a : Int)).toNat = N := by rw [← hN, misN, ha]
  have HS := hid (show misS s u = misF s.e a N by rw [misS, ha, hN])
  have hof : okFrom s.e (a : Int) = true := by rw [← ha]; simp only [ibOk, Bool.and_eq_true] at ho; exact ho.2.2
  have HOF := hid hof
  have HP0 := hid (posP_low hof)
  rw [ha] at hol hx0
  have HX := hid hx0
  have HQ := hid q
  have HOK := hid ho
  have HA := hid ha
  have b0 := Bw.box1 w (.cells #[.slice A a c, .slice B s.e.length d] 31)
  have bL := Bw.box1 (w.alloc (.cells #[.slice A a c, .slice B s.e.length d] 31)) (.cells #[] 3)
  have hk := heap_alloc_new w (.cells #[.slice A a c, .slice B s.e.length d] 31 (0, 0))
  have HK := hid ((bL.out.block _ (blk_lt hk)).trans hk)
  have HB := hid (b0.trans bL)
  have HO := hid (show OI ((w.alloc (.cells #[.slice A a c, .slice B s.e.length d] 31)).alloc (.cells #[] 3)) w.heap.size (.slice (some ⟨(w.alloc (.cells #[.slice A a c, .slice B s.e.length d] 31)).heap.size, 0, none⟩) 0 0) 0 [] from (OI.lit0 (w.alloc (.cells #[.slice A a c, .slice B s.e.length d] 31)) (w.alloc (.cells #[.slice A a c, .slice B s.e.length d] 31)).heap.size (Nat.le_refl _)).base (by simp))
  have hz1 : (w.alloc (.cells #[.slice A a c, .slice B s.e.length d] 31)).heap.size = w.heap.size + 1 := by simp
  rw [hz1] at HO
  have g0 := (blk_cell HK.out 0).trans (show _ = some (Value.slice A a c) from rfl)
  have g1 := (blk_cell HK.out 1).trans (show _ = some (Value.slice B s.e.length d) from rfl)
  have t1 : decide (u > 2000) = false := decide_eq_false (by omega)
  have t1' : decide (2000 < u) = false := decide_eq_false (by omega)
  clear b0 bL hk hz1 ho ha hN r q hx0 hof
  rw [HA.out]
  go_enter Try.func47, Try.ntmps47
  go_upto_region 2 with fail
  generalize ((w.alloc (.cells #[.slice A a c, .slice B s.e.length d] 31)).alloc (.cells #[] 3)) = W1 at *
  go_wp2_with fail
  refine (spec_InboxOk _ s _ (HX.out.to HB.out)).mono ?_
  rintro e w2 ⟨rfl, b2⟩
  rw [HOK.out]
  replace g0 := pw_cell_below b2.out g0
  replace HK := hid ((b2.out.block _ (blk_lt HK.out)).trans HK.out)
  replace HB := hid (HB.out.trans b2)
  replace HO := hid (HO.out.to b2)
  clear b2 g1
  go_wp2
  clear g0 t1 t1'
  go_loopw [5, 6, 7] (fun v5 v6 v7 wr => ∃ j k : Nat, j ≤ N ∧ v7 = .int .i64 ((a : Int) + j) ∧ v6 = .int .i64 k ∧ Hid (posP s.e ((a : Int) + j) = k) ∧ Hid (OI wr w.heap.size v5 (misF s.e a j).length (misF s.e a j)) ∧ Hid (Bw w wr) ∧ Hid (wr.heap[w.heap.size]? = some (.cells #[.slice A a c, .slice B s.e.length d] 31 (0, 0)))) (fun _ _ v7 _ => a + N - (RowKit.intOf v7).toNat)
  case atStart => exact ⟨0, 0, by omega, by simp, rfl, hid (by have := HP0.out; simpa using this), HO, HB, HK⟩
  case round =>
    obtain ⟨j, k, hj, rfl, rfl, hP, hO, hB, hK⟩ := hrel
    have g0 := (blk_cell hK.out 0).trans (show _ = some (Value.slice A a c) from rfl)
    have g1 := (blk_cell hK.out 1).trans (show _ = some (Value.slice B s.e.length d) from rfl)
    by_cases hlt : j < N
    · have t1 : decide ((a : Int) + (j : Int) < u) = true := decide_eq_true (by omega)
      have e1 : IntKind.i64.wrap ((a : Int) + (j : Int) + 1) = (a : Int) + (j : Int) + 1 := i64w (by omega) (by omega)
      have hkk := hid (show j + 1 ≤ N ∧ a + N - (a + (j + 1)) < a + N - (a + j) by clear e1; omega)
      have hjb : j ≤ 2000 := by clear e1; omega
      have hkl : k ≤ s.e.length := by rw [← hP.out]; exact posP_le _ _
      have e2 : IntKind.i64.wrap ((k : Int) + 1) = (k : Int) + 1 := i64w (by clear e1; omega) (by clear e1; omega)
      have i0 : (0 : Int) ≤ (k : Int) := by clear e1 e2; omega
      have hnx := posP_next s.e (a : Int) ((a : Int) + (j : Int)) HOF.out
      have hmf := misF_snoc s.e j a
      rw [show ((a + j : Nat) : Int) = (a : Int) + (j : Int) by omega] at hmf
      have hdef : hasP s.e ((a : Int) + (j : Int)) = (decide (k < s.e.length) && ((gp s.e k).q == (a : Int) + (j : Int))) := by rw [hasP, hP.out]
      rw [hP.out] at hnx
      by_cases hke : k < s.e.length
      · obtain ⟨ad, rfl, x0, _⟩ := (HQ.out.to hB.out).at k hke
        have s1 : decide ((k : Int) < (s.e.length : Int)) = true := decide_eq_true (by clear e1 e2; omega)
        have s1' : decide (k < s.e.length) = true := decide_eq_true hke
        have i1 : (k : Int) < (s.e.length : Int) := by clear e1 e2; omega
        rw [s1', Bool.true_and] at hdef
        obtain ⟨y, hy⟩ : ∃ y, (gp s.e k).q = y := ⟨_, rfl⟩
        rw [hy] at x0 hdef
        by_cases heq : y = (a : Int) + (j : Int)
        · have s2 : (y == (a : Int) + (j : Int)) = true := by simp [heq]
          rw [s2] at hdef
          rw [hdef, if_pos rfl] at hnx hmf
          have HNX := hid hnx
          have HMF := hid (show misF s.e a (j + 1) = misF s.e a j by rw [hmf, List.append_nil])
          clear hdef hnx hmf hy heq
          go_wp2
          go_roundw
          case rel => exact ⟨j + 1, k + 1, hkk.out.1, by go_num, by go_num, hid (by have := HNX.out; rw [← this]; congr 1), by rw [HMF.out]; exact hO, hB, hK⟩
          case measure => simp [RowKit.intOf]; have := hkk.out; clear e1 e2; omega
        · have s2 : (y == (a : Int) + (j : Int)) = false := by simp [heq]
          rw [s2] at hdef
          rw [hdef] at hnx hmf
          have HNX := hid (show posP s.e ((a : Int) + (j : Int) + 1) = k by rw [hnx]; simp)
          have HMF := hid (show misF s.e a (j + 1) = misF s.e a j ++ [(a : Int) + (j : Int)] by rw [hmf]; simp)
          clear hdef hnx hmf hy heq
          obtain ⟨Ao, co, rfl, _⟩ := hO.out.reads
          have hll := hid (misF_len s.e j a)
          go_wp2_with (at_builtin; refine print_append_num (w0 := w) w.heap.size rfl _ _ 22 3 .i64 8 rfl Try.underlying22 info_int (by omega) (.slice Ao (misF s.e a j).length co) (misF s.e a j) ((a : Int) + (j : Int)) rfl rfl hO.out.out hB.out.out hB.out.size (by clear e1 e2; have := hll.out; omega) ?_; intro v1 w5 hown1 hB1 hg1 _)
          have hK5 := hid (blk_grown hK.out hg1 (own_ne hO.out.out hK.out (by decide)))
          have hO5 := hid (show OI w5 w.heap.size v1 (misF s.e a (j + 1)).length (misF s.e a (j + 1)) by rw [HMF.out]; exact ⟨hown1⟩)
          go_roundw
          case rel => exact ⟨j + 1, k, hkk.out.1, by go_num, rfl, hid (by have := HNX.out; rw [← this]; congr 1), hO5, hid ⟨hB1⟩, hK5⟩
          case measure => simp [RowKit.intOf]; have := hkk.out; clear e1 e2; omega
      · have s1 : decide ((k : Int) < (s.e.length : Int)) = false := decide_eq_false (by clear e1 e2; omega)
        have s1' : decide (k < s.e.length) = false := decide_eq_false hke
        rw [s1', Bool.false_and] at hdef
        rw [hdef] at hnx hmf
        have HNX := hid (show posP s.e ((a : Int) + (j : Int) + 1) = k by rw [hnx]; simp)
        have HMF := hid (show misF s.e a (j + 1) = misF s.e a j ++ [(a : Int) + (j : Int)] by rw [hmf]; simp)
        clear hdef hnx hmf
        obtain ⟨Ao, co, rfl, _⟩ := hO.out.reads
        have hll := hid (misF_len s.e j a)
        go_wp2_with (at_builtin; refine print_append_num (w0 := w) w.heap.size rfl _ _ 22 3 .i64 8 rfl Try.underlying22 info_int (by omega) (.slice Ao (misF s.e a j).length co) (misF s.e a j) ((a : Int) + (j : Int)) rfl rfl hO.out.out hB.out.out hB.out.size (by clear e1 e2; have := hll.out; omega) ?_; intro v1 w5 hown1 hB1 hg1 _)
        have hK5 := hid (blk_grown hK.out hg1 (own_ne hO.out.out hK.out (by decide)))
        have hO5 := hid (show OI w5 w.heap.size v1 (misF s.e a (j + 1)).length (misF s.e a (j + 1)) by rw [HMF.out]; exact ⟨hown1⟩)
        go_roundw
        case rel => exact ⟨j + 1, k, hkk.out.1, by go_num, rfl, hid (by have := HNX.out; rw [← this]; congr 1), hO5, hid ⟨hB1⟩, hK5⟩
        case measure => simp [RowKit.intOf]; have := hkk.out; clear e1 e2; omega
    · obtain rfl : j = N := by omega
      have t1 : decide ((a : Int) + (j : Int) < u) = false := decide_eq_false (by omega)
      go_wp2
      go_ret
      exact ⟨_, rfl, by rw [HS.out]; exact hO.out, hB.out⟩
end Go.Proofs.Ytcdibjneoemidaa.U
