
/- Weights of a valid mesh, by the program and by the reference. -/
import Derived.Test.YtaemkneppphkmaaIa
import Derived.Test.YtaemkneppphkmaaSk
set_option linter.unusedVariables false
set_option linter.unusedSimpArgs false
namespace Go.Proofs.Ytaemkneppphkmaa.U
open Go.RowKit Go.Lib Go.Proofs.YtaemkneppphkmaaW.PrintWords

/-- the weights of cells -/
def wts (l : List Ce) : List Int := l.map fun c => pow2 c.l
theorem wts_length (l : List Ce) : (wts l).length = l.length := by simp [wts]
theorem wts_snoc {l : List Ce} {j : Nat} (h : j < l.length) : (wts l).take (j + 1) = (wts l).take j ++ [pow2 (gc l j).l] := by
  rw [List.take_add_one, wts, List.getElem?_map, List.getElem?_eq_getElem h, gc_at h]
  rfl
set_option maxHeartbeats 8000000 in
set_option maxRecDepth 100000 in
theorem impl_WeightsOf (ro : Int) (A : Option Addr) (n c : Nat) (l : List Ce) (w : World) (r : IdR w A n l) (hm : meshOk ro l = true) :
    Calls Try.prog 10 #[.agg #[.int .i64 ro, .slice A n c]] w fun e w' => ∃ v, e = .returned v ∧ OI w' w.heap.size v (wts l).length (wts l) ∧ Bw w w' := by
  have hl := r.len
  have HL := hid hl
  have hn := hid (show n ≤ 128 by have := (meshOk_len hm).1; omega)
  have hlv := hid (meshOk_lvs hm)
  have b0 := Bw.box1 w (.cells #[.int .i64 ro, .slice A n c] 26)
  have g0 := box_cell (Bw.refl (w.alloc (.cells #[.int .i64 ro, .slice A n c] 26))) 0
  have g1 := box_cell (Bw.refl (w.alloc (.cells #[.int .i64 ro, .slice A n c] 26))) 1
  simp only [List.getElem?_toArray, List.getElem?_cons_zero, List.getElem?_cons_succ] at g0 g1
  have HM := hid hm
  have hmax := r.max
  clear hl hm
  go_enter Try.func10, Try.ntmps10
  go_wp2_with fail
  refine (impl_MeshOk ro A n c l _ (r.to b0)).mono ?_
  rintro e w1 ⟨rfl, b1⟩
  rw [HM.out]
  replace g0 := pw_cell_below b1.out g0
  replace g1 := pw_cell_below b1.out g1
  replace b0 := b0.trans b1
  have o0 : OI (w1.alloc (.cells #[] 3)) w.heap.size (.slice (some ⟨w1.heap.size, 0, none⟩) 0 0) 0 [] := OI.lit0 w1 w.heap.size b0.size
  have b2 := b0.trans (Bw.box1 w1 (.cells #[] 3))
  have g1' := pw_cell_below (Bw.box1 w1 (.cells #[] 3)).out g1
  clear b1 b0
  go_wp2
  go_loopw [3, 13] (fun v3 v13 wr => ∃ j : Nat, j ≤ n ∧ v13 = .int .i64 j ∧ OI wr w.heap.size v3 ((wts l).take j).length ((wts l).take j) ∧ Bw w wr) (fun _ v13 _ => n - (intOf v13).toNat)
  case atStart => exact ⟨0, by omega, rfl, by simpa using o0, b2⟩
  case round =>
    obtain ⟨j, hj, rfl, hO, hB⟩ := hrel
    by_cases hlt : j < n
    · have t1 : decide ((j : Int) < (n : Int)) = true := decide_eq_true (by omega)
      obtain ⟨ad, rfl, x0, x1, x2⟩ := (r.to hB).at j hlt
      have HS := hid (wts_snoc (l := l) (j := j) (by rw [HL.out]; exact hlt))
      have hlj := hlv.out.out j (by rw [HL.out]; exact hlt)
      have htl : Hid (((wts l).take j).length = j) := hid (by rw [List.length_take, wts_length, HL.out]; omega)
      have h5 : (gc l j).l = 0 ∨ (gc l j).l = 1 ∨ (gc l j).l = 2 ∨ (gc l j).l = 3 ∨ (gc l j).l = 4 := by omega
      clear hlj
      rcases h5 with hc | hc | hc | hc | hc
      · rw [hc] at x1 HS
        have b6 := Bw.box1 wr (.cells #[.int .i64 (gc l j).r, .int .i64 0, .int .i64 (gc l j).i] 32)
        have g1 := box_cell (Bw.refl (wr.alloc (.cells #[.int .i64 (gc l j).r, .int .i64 0, .int .i64 (gc l j).i] 32))) 1
        simp only [List.getElem?_toArray, List.getElem?_cons_zero, List.getElem?_cons_succ] at g1
        have hO' := hO.to b6
        have hB' := hB.trans b6
        clear b6 hc
        go_wp2_with (at_builtin; refine print_append_num (w0 := w) w.heap.size rfl _ _ 28 3 .i64 8 rfl Try.underlying28 info_int (by omega) u3 ((wts l).take j) 1 rfl (by show Value.slice (some ⟨wr.heap.size + 1, 0, none⟩) 1 1 = _; simp) hO'.out hB'.out hB'.size (by have := hn.out; have := htl.out; omega) ?_; intro v1 w3 hown1 hB1 hg1 _)
        go_roundw
        case rel => exact ⟨j + 1, by omega, by go_num, by rw [HS.out]; exact ⟨hown1⟩, ⟨hB1⟩⟩
        case measure => simp [intOf]; omega
      · rw [hc] at x1 HS
        have b6 := Bw.box1 wr (.cells #[.int .i64 (gc l j).r, .int .i64 1, .int .i64 (gc l j).i] 32)
        have g1 := box_cell (Bw.refl (wr.alloc (.cells #[.int .i64 (gc l j).r, .int .i64 1, .int .i64 (gc l j).i] 32))) 1
        simp only [List.getElem?_toArray, List.getElem?_cons_zero, List.getElem?_cons_succ] at g1
        have hO' := hO.to b6
        have hB' := hB.trans b6
        clear b6 hc
        go_wp2_with (at_builtin; refine print_append_num (w0 := w) w.heap.size rfl _ _ 28 3 .i64 8 rfl Try.underlying28 info_int (by omega) u3 ((wts l).take j) 2 rfl (by show Value.slice (some ⟨wr.heap.size + 1, 0, none⟩) 1 1 = _; simp) hO'.out hB'.out hB'.size (by have := hn.out; have := htl.out; omega) ?_; intro v1 w3 hown1 hB1 hg1 _)
        go_roundw
        case rel => exact ⟨j + 1, by omega, by go_num, by rw [HS.out]; exact ⟨hown1⟩, ⟨hB1⟩⟩
        case measure => simp [intOf]; omega
      · rw [hc] at x1 HS
        have b6 := Bw.box1 wr (.cells #[.int .i64 (gc l j).r, .int .i64 2, .int .i64 (gc l j).i] 32)
        have g1 := box_cell (Bw.refl (wr.alloc (.cells #[.int .i64 (gc l j).r, .int .i64 2, .int .i64 (gc l j).i] 32))) 1
        simp only [List.getElem?_toArray, List.getElem?_cons_zero, List.getElem?_cons_succ] at g1
        have hO' := hO.to b6
        have hB' := hB.trans b6
        clear b6 hc
        go_wp2_with (at_builtin; refine print_append_num (w0 := w) w.heap.size rfl _ _ 28 3 .i64 8 rfl Try.underlying28 info_int (by omega) u3 ((wts l).take j) 4 rfl (by show Value.slice (some ⟨wr.heap.size + 1, 0, none⟩) 1 1 = _; simp) hO'.out hB'.out hB'.size (by have := hn.out; have := htl.out; omega) ?_; intro v1 w3 hown1 hB1 hg1 _)
        go_roundw
        case rel => exact ⟨j + 1, by omega, by go_num, by rw [HS.out]; exact ⟨hown1⟩, ⟨hB1⟩⟩
        case measure => simp [intOf]; omega
      · rw [hc] at x1 HS
        have b6 := Bw.box1 wr (.cells #[.int .i64 (gc l j).r, .int .i64 3, .int .i64 (gc l j).i] 32)
        have g1 := box_cell (Bw.refl (wr.alloc (.cells #[.int .i64 (gc l j).r, .int .i64 3, .int .i64 (gc l j).i] 32))) 1
        simp only [List.getElem?_toArray, List.getElem?_cons_zero, List.getElem?_cons_succ] at g1
        have hO' := hO.to b6
        have hB' := hB.trans b6
        clear b6 hc
        go_wp2_with (at_builtin; refine print_append_num (w0 := w) w.heap.size rfl _ _ 28 3 .i64 8 rfl Try.underlying28 info_int (by omega) u3 ((wts l).take j) 8 rfl (by show Value.slice (some ⟨wr.heap.size + 1, 0, none⟩) 1 1 = _; simp) hO'.out hB'.out hB'.size (by have := hn.out; have := htl.out; omega) ?_; intro v1 w3 hown1 hB1 hg1 _)
        go_roundw
        case rel => exact ⟨j + 1, by omega, by go_num, by rw [HS.out]; exact ⟨hown1⟩, ⟨hB1⟩⟩
        case measure => simp [intOf]; omega
      · rw [hc] at x1 HS
        have b6 := Bw.box1 wr (.cells #[.int .i64 (gc l j).r, .int .i64 4, .int .i64 (gc l j).i] 32)
        have g1 := box_cell (Bw.refl (wr.alloc (.cells #[.int .i64 (gc l j).r, .int .i64 4, .int .i64 (gc l j).i] 32))) 1
        simp only [List.getElem?_toArray, List.getElem?_cons_zero, List.getElem?_cons_succ] at g1
        have hO' := hO.to b6
        have hB' := hB.trans b6
        clear b6 hc
        go_wp2_with (at_builtin; refine print_append_num (w0 := w) w.heap.size rfl _ _ 28 3 .i64 8 rfl Try.underlying28 info_int (by omega) u3 ((wts l).take j) 16 rfl (by show Value.slice (some ⟨wr.heap.size + 1, 0, none⟩) 1 1 = _; simp) hO'.out hB'.out hB'.size (by have := hn.out; have := htl.out; omega) ?_; intro v1 w3 hown1 hB1 hg1 _)
        go_roundw
        case rel => exact ⟨j + 1, by omega, by go_num, by rw [HS.out]; exact ⟨hown1⟩, ⟨hB1⟩⟩
        case measure => simp [intOf]; omega
    · obtain rfl : j = n := by omega
      have t1 : decide ((j : Int) < (j : Int)) = false := decide_eq_false (by omega)
      have hfin : Hid ((wts l).take j = wts l) := hid (List.take_of_length_le (by rw [wts_length, HL.out]; omega))
      have HO := hid hO
      clear hO
      go_wp2
      go_ret
      exact ⟨_, rfl, by have := HO.out; rw [hfin.out] at this; exact this, hB⟩
end Go.Proofs.Ytaemkneppphkmaa.U
