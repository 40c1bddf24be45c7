
/- The numbers that are missing, by the program. -/
import Derived.Test.YtcdibjneoemidaaKp
set_option linter.unusedVariables false
set_option linter.unusedSimpArgs false
namespace Go.Proofs.Ytcdibjneoemidaa.U
open Go.RowKit Go.Lib Go.Proofs.YtcdibjneoemidaaW.PrintWords

open Go.Proofs.YtcdibjneoemidaaW.PrintLast Go.Proofs.YtcdibjneoemidaaW.PrintMore
/-- how many numbers are asked for -/
def misN (s : Ib) (u : Int) : Nat := (u - (s.g.length : Int)).toNat
def misS (s : Ib) (u : Int) : List Int := misF s.e s.g.length (misN s u)
theorem misS_nat {s : Ib} {n : Nat} : misS s (n : Int) = misF s.e s.g.length (n - s.g.length) := by
  rw [misS, misN, show ((n : Int) - (s.g.length : Int)).toNat = n - s.g.length by omega]
set_option maxHeartbeats 1000000 in
set_option maxRecDepth 100000 in
theorem impl_missing (x : Value) (s : Ib) (u : Int) (w : World) (hx : IbR w x s) (ho : ibOk s = true) (hu : u ≤ 2000) :
    Calls Try.prog 43 #[x, .int .i64 u] w fun e w' => ∃ v, e = .returned v ∧ OI w' w.heap.size v (misS s u).length (misS s u) ∧ Bw w w' := by
  have hx0 := hx
  obtain ⟨A, c, B, d, rfl, r, q, _, _⟩ := hx
  have hol := (ibOk_len ho).1
  obtain ⟨a, ha⟩ : ∃ a, s.g.length = a := ⟨_, rfl⟩
  obtain ⟨N, hN⟩ : ∃ N, misN s u = N := ⟨_, rfl⟩
  have hN2 : (u - (a : Int)).toNat = N := by rw [← hN, misN, ha]
  have HS := hid (show misS s u = misF s.e a N by rw [misS, ha, hN])
  rw [ha] at hol hx0
  have HX := hid hx0
  clear hx0
  have HOK := hid ho
  have HA := hid ha
  have b0 := Bw.box1 w (.cells #[.slice A a c, .slice B s.e.length d] 31)
  have bL := Bw.box1 (w.alloc (.cells #[.slice A a c, .slice B s.e.length d] 31)) (.cells #[] 3)
  have hk := heap_alloc_new w (.cells #[.slice A a c, .slice B s.e.length d] 31 (0, 0))
  have HK := hid ((bL.out.block _ (blk_lt hk)).trans hk)
  have HB := hid (b0.trans bL)
  have HO := hid (show OI ((w.alloc (.cells #[.slice A a c, .slice B s.e.length d] 31)).alloc (.cells #[] 3)) w.heap.size (.slice (some ⟨(w.alloc (.cells #[.slice A a c, .slice B s.e.length d] 31)).heap.size, 0, none⟩) 0 0) 0 [] from (OI.lit0 (w.alloc (.cells #[.slice A a c, .slice B s.e.length d] 31)) (w.alloc (.cells #[.slice A a c, .slice B s.e.length d] 31)).heap.size (Nat.le_refl _)).base (by simp))
  have hz1 : (w.alloc (.cells #[.slice A a c, .slice B s.e.length d] 31)).heap.size = w.heap.size + 1 := by simp
  rw [hz1] at HO
  have g0 := (blk_cell HK.out 0).trans (show _ = some (Value.slice A a c) from rfl)
  clear b0 bL hk hz1 ho ha hN r q
  rw [HA.out]
  go_enter Try.func43, Try.ntmps43
  go_upto_region 2 with fail
  generalize ((w.alloc (.cells #[.slice A a c, .slice B s.e.length d] 31)).alloc (.cells #[] 3)) = W1 at *
  go_wp2
  clear g0
  go_loopw [5, 6] (fun v5 v6 wr => ∃ j : Nat, j ≤ N ∧ v6 = .int .i64 ((a : Int) + j) ∧ Hid (OI wr w.heap.size v5 (misF s.e a j).length (misF s.e a j)) ∧ Hid (Bw w wr) ∧ Hid (wr.heap[w.heap.size]? = some (.cells #[.slice A a c, .slice B s.e.length d] 31 (0, 0)))) (fun _ v6 _ => a + N - (RowKit.intOf v6).toNat)
  case atStart => exact ⟨0, by omega, by simp, HO, HB, HK⟩
  case round =>
    obtain ⟨j, hj, rfl, hO, hB, hK⟩ := hrel
    have g0 := (blk_cell hK.out 0).trans (show _ = some (Value.slice A a c) from rfl)
    have g1 := (blk_cell hK.out 1).trans (show _ = some (Value.slice B s.e.length d) from rfl)
    by_cases hlt : j < N
    · have t1 : decide ((a : Int) + (j : Int) < u) = true := decide_eq_true (by omega)
      have e1 : IntKind.i64.wrap ((a : Int) + (j : Int) + 1) = (a : Int) + (j : Int) + 1 := i64w (by omega) (by omega)
      have hkk := hid (show j + 1 ≤ N ∧ a + N - (a + (j + 1)) < a + N - (a + j) by clear e1; omega)
      have hjb : j ≤ 2000 := by clear e1; omega
      go_wp2_with fail
      refine (impl_early _ s ((a : Int) + (j : Int)) _ (HX.out.to hB.out) HOK.out).mono ?_
      rintro e w2 ⟨rfl, b2⟩
      obtain ⟨b, hb⟩ : ∃ b, hasP s.e ((a : Int) + (j : Int)) = b := ⟨_, rfl⟩
      have hb2 : (decide (posP s.e ((a : Int) + (j : Int)) < s.e.length) && ((gp s.e (posP s.e ((a : Int) + (j : Int)))).q == (a : Int) + (j : Int))) = b := hb
      rw [hb2]
      have hst := hid (show misF s.e a (j + 1) = misF s.e a j ++ (if b = true then [] else [(a : Int) + (j : Int)]) by rw [misF_snoc, show ((a + j : Nat) : Int) = (a : Int) + (j : Int) by omega, hb])
      have hO2 := hid (hO.out.to b2)
      have hB2 := hid (hB.out.trans b2)
      have hK2 := hid ((b2.out.block _ (blk_lt hK.out)).trans hK.out)
      generalize posP s.e ((a : Int) + (j : Int)) = ps at *
      clear hb hb2 hO hB hK b2 g0 g1
      cases b with
      | true =>
        have hst2 := hid (show misF s.e a (j + 1) = misF s.e a j by rw [hst.out]; simp)
        go_wp2
        go_roundw
        case rel => exact ⟨j + 1, hkk.out.1, by go_num, by rw [hst2.out]; exact hO2, hB2, hK2⟩
        case measure => simp [RowKit.intOf]; have := hkk.out; clear e1; omega
      | false =>
        obtain ⟨Ao, co, rfl, _⟩ := hO2.out.reads
        have hll := hid (misF_len s.e j a)
        have hst2 := hid (show misF s.e a (j + 1) = misF s.e a j ++ [(a : Int) + (j : Int)] by rw [hst.out]; simp)
        go_wp2_with (at_builtin; refine print_append_num (w0 := w) w.heap.size rfl _ _ 22 3 .i64 8 rfl Try.underlying22 info_int (by omega) (.slice Ao (misF s.e a j).length co) (misF s.e a j) ((a : Int) + (j : Int)) rfl rfl hO2.out.out hB2.out.out hB2.out.size (by clear e1; have := hll.out; omega) ?_; intro v1 w5 hown1 hB1 hg1 _)
        have hK5 := hid (blk_grown hK2.out hg1 (own_ne hO2.out.out hK2.out (by decide)))
        have hO5 := hid (show OI w5 w.heap.size v1 (misF s.e a (j + 1)).length (misF s.e a (j + 1)) by rw [hst2.out]; exact ⟨hown1⟩)
        go_roundw
        case rel => exact ⟨j + 1, hkk.out.1, by go_num, hO5, hid ⟨hB1⟩, hK5⟩
        case measure => simp [RowKit.intOf]; have := hkk.out; clear e1; omega
    · obtain rfl : j = N := by omega
      have t1 : decide ((a : Int) + (j : Int) < u) = false := decide_eq_false (by omega)
      go_wp2
      go_ret
      exact ⟨_, rfl, by rw [HS.out]; exact hO.out, hB.out⟩
theorem impl_Missing (x : Value) (s : Ib) (u : Int) (w : World) (hx : IbR w x s) (ho : ibOk s = true) (hu : u ≤ 2000) :
    Calls Try.prog 20 #[x, .int .i64 u] w fun e w' => ∃ v, e = .returned v ∧ OI w' w.heap.size v (misS s u).length (misS s u) ∧ Bw w w' := by
  have HX := hid hx
  obtain ⟨A, c, B, d, rfl, r, q, _, _⟩ := hx
  have HOK := hid ho
  have b0 := Bw.box1 w (.cells #[.slice A s.g.length c, .slice B s.e.length d] 31)
  have g0 := box_cell (Bw.refl (w.alloc (.cells #[.slice A s.g.length c, .slice B s.e.length d] 31))) 0
  have g1 := box_cell (Bw.refl (w.alloc (.cells #[.slice A s.g.length c, .slice B s.e.length d] 31))) 1
  simp only [List.getElem?_toArray, List.getElem?_cons_zero, List.getElem?_cons_succ] at g0 g1
  have t1 : decide (u > 2000) = false := decide_eq_false (by omega)
  have t1' : decide (2000 < u) = false := decide_eq_false (by omega)
  have HU := hid hu
  clear hu ho
  go_enter Try.func20, Try.ntmps20
  go_wp2_with fail
  generalize (w.alloc (.cells #[.slice A s.g.length c, .slice B s.e.length d] 31)) = W1 at *
  refine (impl_InboxOk _ s _ (HX.out.to b0)).mono ?_
  rintro e w2 ⟨rfl, b2⟩
  rw [HOK.out]
  replace g0 := pw_cell_below b2.out g0
  replace g1 := pw_cell_below b2.out g1
  go_wp2_with fail
  refine (impl_missing _ s u _ (HX.out.to (b0.trans b2)) HOK.out HU.out).mono ?_
  rintro e w3 ⟨v, rfl, o, b3⟩
  go_wp2
  go_ret
  exact ⟨_, rfl, o.base (b0.trans b2).size, (b0.trans b2).trans b3⟩
end Go.Proofs.Ytcdibjneoemidaa.U
