
/- EventsOf and FaceLevel. -/
import Derived.Test.YtkendhkaheoinaaG24
set_option linter.unusedVariables false
set_option linter.unusedSimpArgs false
namespace Go.Proofs.Ytkendhkaheoinaa.U
open Go.RowKit Go.Lib Go.Proofs.YtkendhkaheoinaaW.PrintWords
open Go.Proofs.YtkendhkaheoinaaW.PrintLast Go.Proofs.YtkendhkaheoinaaW.PrintMore
set_option maxHeartbeats 8000000 in
set_option maxRecDepth 100000 in
theorem spec_EventsOf (ro : Int) (A : Option Addr) (n c : Nat) (l : List Ce) (w : World) (r : IdR w A n l) (hok : meshOk ro l = true) (h1 : 1 ≤ n) (hn : n ≤ 128) :
  Calls Try.prog 15 #[.agg #[.int .i64 ro, .slice A n c]] w fun e w' => ∃ v, e = .returned v ∧ EvO w' w.heap.size v (evs l 0 16).length (evs l 0 16) ∧ Bw w w' := by
 have b0 := Bw.box1 w (.cells #[.int .i64 ro, .slice A n c] 26)
 have g0 := box_cell (Bw.refl (w.alloc (.cells #[.int .i64 ro, .slice A n c] 26))) 0
 have g1 := box_cell (Bw.refl (w.alloc (.cells #[.int .i64 ro, .slice A n c] 26))) 1
 simp only [List.getElem?_toArray, List.getElem?_cons_zero, List.getElem?_cons_succ] at g0 g1
 have hk0 := heap_alloc_new w (.cells #[.int .i64 ro, .slice A n c] 26 (0, 0))
 have HOK := hid hok
 have hlen := r.len
 have HLN := hid hlen
 clear hok hlen
 have bL := Bw.box1 (w.alloc (.cells #[.int .i64 ro, .slice A n c] 26)) (.cells #[] 40)
 have o0 : EvO ((w.alloc (.cells #[.int .i64 ro, .slice A n c] 26)).alloc (.cells #[] 40)) w.heap.size (.slice (some ⟨w.heap.size + 1, 0, none⟩) 0 0) 0 [] := by
  have := FO.less (EvO.lit0 (w.alloc (.cells #[.int .i64 ro, .slice A n c] 26))) b0.size
  rw [show (w.alloc (.cells #[.int .i64 ro, .slice A n c] 26)).heap.size = w.heap.size + 1 by simp] at this
  exact this
 have HK0 := hid ((bL.out.block _ (blk_lt hk0)).trans hk0)
 have HB0 := hid (b0.trans bL)
 have HO0 := hid o0
 clear hk0 b0 bL o0 g0 g1
 go_enter Try.func15, Try.ntmps15
 go_upto_region 2 with fail
 generalize ((w.alloc (.cells #[.int .i64 ro, .slice A n c] 26)).alloc (.cells #[] 40)) = W1 at *
 go_wp2
 go_loopw [3, 4] (fun v3 v4 wr => ∃ k : Nat, k ≤ 16 ∧ v4 = .int .i64 k ∧ Hid (EvO wr w.heap.size v3 (evs l 0 k).length (evs l 0 k)) ∧ Hid (Bw w wr) ∧ Hid (wr.heap[w.heap.size]? = some (.cells #[.int .i64 ro, .slice A n c] 26 (0, 0)))) (fun _ v4 _ => 16 - (intOf v4).toNat)
 case atStart => exact ⟨0, by omega, rfl, HO0, HB0, HK0⟩
 case round =>
  obtain ⟨k, hk, rfl, hO, hB, hK⟩ := hrel
  have k0 : wr.cell? ⟨w.heap.size, 0, none⟩ = some (.int .i64 ro) := (blk_cell hK.out 0).trans rfl
  have k1 : wr.cell? ⟨w.heap.size, 1, none⟩ = some (.slice A n c) := (blk_cell hK.out 1).trans rfl
  by_cases hlt : k < 16
  ·have t1 : decide ((k : Int) < 16) = true := decide_eq_true (by omega)
   have t2 : decide (k < 16) = true := decide_eq_true (by omega)
   have e1 : IntKind.i64.wrap ((k : Int) + 1) = (k : Int) + 1 := i64w (by omega) (by omega)
   have HS := hid (show k + 1 ≤ 16 ∧ 16 - (k + 1) < 16 - k ∧ (evs l 0 k).length ≤ 2048 from ⟨by clear e1; omega, by clear e1; omega, by
    clear e1
    have h2 := evs_len l 0 k
    have h3 : k * (l.length - 1) ≤ 16 * 128 := Nat.mul_le_mul (by omega) (by have := HLN.out; omega)
    omega⟩)
   go_wp2_with fail
   refine (spec_MeshOk ro A n c l _ (r.to hB.out)).mono ?_
   rintro e w2 ⟨rfl, b2⟩
   rw [HOK.out]
   have hK2 := hid ((b2.out.block _ (blk_lt hK.out)).trans hK.out)
   have hO2 := hid (hO.out.to b2)
   have hB2 := hid (hB.out.trans b2)
   have HST := hid (show EvO w2 w.heap.size _ (evs l 0 k ++ evI l k 0).length (evs l 0 k ++ evI l k 0) by
    rw [show evI l k 0 = [] from rfl, List.append_nil]; exact hO2.out)
   clear b2 hO hB hK k0 k1
   go_wp2
   go_loopw [3, 5] (fun v3 v5 wr => ∃ j : Nat, j ≤ n - 1 ∧ v5 = .int .i64 j ∧ Hid (EvO wr w.heap.size v3 (evs l 0 k ++ evI l k j).length (evs l 0 k ++ evI l k j)) ∧ Hid (Bw w wr) ∧ Hid (wr.heap[w.heap.size]? = some (.cells #[.int .i64 ro, .slice A n c] 26 (0, 0)))) (fun _ v5 _ => n - (intOf v5).toNat)
   case atStart => exact ⟨0, by clear e1; omega, rfl, HST, hB2, hK2⟩
   case round =>
    rename_i w2
    obtain ⟨j, hj, rfl, hO, hB, hK⟩ := hrel
    have k0 : wr.cell? ⟨w.heap.size, 0, none⟩ = some (.int .i64 ro) := (blk_cell hK.out 0).trans rfl
    have k1 : wr.cell? ⟨w.heap.size, 1, none⟩ = some (.slice A n c) := (blk_cell hK.out 1).trans rfl
    have e2 : IntKind.i64.wrap ((j : Int) + 1) = (j : Int) + 1 := i64w (by clear e1; omega) (by clear e1; omega)
    by_cases hlt2 : j + 1 < n
    ·have u1 : decide ((j : Int) + 1 < (n : Int)) = true := decide_eq_true (by clear e1 e2; omega)
     have HS2 := hid (show j + 1 ≤ n - 1 ∧ n - (j + 1) < n - j from ⟨by clear e1 e2; omega, by clear e1 e2; omega⟩)
     have hLn := hid (show (evs l 0 k ++ evI l k j).length ≤ 4096 by
      have h3 := HS.out.2.2
      have h4 := evI_len l k j
      rw [List.length_append]
      clear e1 e2
      omega)
     go_wp2_with fail
     refine (spec_l05Face ro A n c l j _ (r.to hB.out) hlt2).mono ?_
     rintro e w3 ⟨rfl, b3⟩
     have hK2 := hid ((b3.out.block _ (blk_lt hK.out)).trans hK.out)
     have hO2 := hid (hO.out.to b3)
     have hB2 := hid (hB.out.trans b3)
     clear b3 hO hB hK k0 k1
     obtain ⟨F, hF⟩ : ∃ F, faceL l j = F := ⟨_, rfl⟩
     rw [hF]
     go_wp2_with fail
     refine (spec_IsActive (k : Int) F _ (by clear e1 e2; omega)).mono ?_
     rintro e w4 ⟨rfl, rfl⟩
     cases ha : actB (k : Int) F with
     | false =>
      have HN := hid (show evI l k (j + 1) = evI l k j by rw [evI_succ, hF, ha]; rfl)
      have hO3 := hid (show EvO w3 w.heap.size _ (evs l 0 k ++ evI l k (j + 1)).length (evs l 0 k ++ evI l k (j + 1)) by rw [HN.out]; exact hO2.out)
      clear hO2 hF ha
      go_wp2
      go_roundw
      case rel => exact ⟨j + 1, HS2.out.1, by go_num, hO3, hB2, hK2⟩
      case measure => simp [intOf]; clear e1 e2; omega
     | true =>
      have hN := hid (show nums .i64 (evF (evs l 0 k ++ evI l k (j + 1))) = nums .i64 (evF (evs l 0 k ++ evI l k j)) ++ [Value.int .i64 (k : Int), .int .i64 (j : Int)] ∧ (evs l 0 k ++ evI l k (j + 1)).length = (evs l 0 k ++ evI l k j).length + 1 by
       rw [evI_succ, hF, if_pos ha, ← List.append_assoc, evF_snoc]
       exact ⟨rfl, by simp; omega⟩)
      obtain ⟨E, hE⟩ : ∃ E, evs l 0 k ++ evI l k j = E := ⟨_, rfl⟩
      rw [hE] at hN hO2 hLn
      clear hF ha hE
      obtain ⟨Aq, cq, rfl, _, _⟩ := hO2.out.reads
      go_wp2_with (at_builtin; refine print_append_cells (w0 := w) w.heap.size rfl _ _ 31 40 (.agg #[.int .i64 0, .int .i64 0]) 2 16 rfl Try.underlying31 info_ev rfl (by decide) (by decide) (.slice Aq E.length cq) E.length (nums .i64 (evF E)) [Value.int .i64 (k : Int), .int .i64 (j : Int)] rfl rfl rfl (by simp [Value.oneCell']) hO2.out.out hB2.out.out hB2.out.size (by have := hLn.out; clear e1 e2; omega) ?_; intro v1 w3 hown1 hB1 hg1 _)
      have hK3 := hid (blk_grown hK2.out hg1 (own_ne hO2.out.out hK2.out (by decide)))
      have hO3 := hid (show EvO w3 w.heap.size v1 (evs l 0 k ++ evI l k (j + 1)).length (evs l 0 k ++ evI l k (j + 1)) by rw [hN.out.2]; exact ⟨by rw [hN.out.1]; exact hown1⟩)
      have hB3 := hid (show Bw w w3 from ⟨hB1⟩)
      go_roundw
      case rel => exact ⟨j + 1, HS2.out.1, by go_num, hO3, hB3, hK3⟩
      case measure => simp [intOf]; clear e1 e2; omega
    ·obtain rfl : j = n - 1 := by clear e1 e2; omega
     have u1 : decide (((n - 1 : Nat) : Int) + 1 < (n : Int)) = false := decide_eq_false (by clear e1 e2; omega)
     have hT := hid (show evs l 0 k ++ evI l k (n - 1) = evs l 0 (k + 1) by
      rw [evs, if_pos (Nat.zero_le _), HLN.out])
     have hO3 := hid (show EvO _ w.heap.size _ (evs l 0 (k + 1)).length (evs l 0 (k + 1)) by rw [← hT.out]; exact hO.out)
     clear hO hT
     go_wp2
     go_roundw
     case rel => exact ⟨k + 1, HS.out.1, by go_num, hO3, hB, hK⟩
     case measure => simp [intOf]; have := HS.out.2.1; clear e1 e2; omega
  ·obtain rfl : k = 16 := by omega
   have t1 : decide (((16 : Nat) : Int) < 16) = false := decide_eq_false (by omega)
   go_wp2
   go_ret
   exact ⟨_, rfl, hO.out, hB.out⟩
theorem impl_FaceLevel (ro : Int) (A : Option Addr) (n c : Nat) (l : List Ce) (i : Nat) (w : World) (r : IdR w A n l) (hok : meshOk ro l = true) (hn : n ≤ 128) (hi : i + 1 < n) :
  Calls Try.prog 42 #[.agg #[.int .i64 ro, .slice A n c], .int .i64 (i : Int)] w fun e w' => e = .returned (.int .i64 (faceL l i)) ∧ Bw w w' := by
 have e1 : IntKind.i64.wrap ((n : Int) - 2) = (n : Int) - 2 := i64w (by omega) (by omega)
 have HR := hid (show inR (i : Int) 0 ((n : Int) - 2) = true from inR_iff.2 (by clear e1; omega))
 have b0 := Bw.box1 w (.cells #[.int .i64 ro, .slice A n c] 26)
 have g0 := box_cell (Bw.refl (w.alloc (.cells #[.int .i64 ro, .slice A n c] 26))) 0
 have g1 := box_cell (Bw.refl (w.alloc (.cells #[.int .i64 ro, .slice A n c] 26))) 1
 simp only [List.getElem?_toArray, List.getElem?_cons_zero, List.getElem?_cons_succ] at g0 g1
 have HOK := hid hok
 clear hok
 go_enter Try.func42, Try.ntmps42
 go_wp2_with fail
 refine (impl_MeshOk ro A n c l _ (r.to b0)).mono ?_
 rintro e w1 ⟨rfl, b1⟩
 rw [HOK.out]
 replace g0 := pw_cell_below b1.out g0
 replace g1 := pw_cell_below b1.out g1
 have HB := hid (b0.trans b1)
 clear b0 b1
 go_wp2_with fail
 refine (toBool (within _ _ _ _) HR.out).mono ?_
 rintro e w2 ⟨rfl, rfl⟩
 go_wp2_with fail
 refine (impl_faceLevel ro A n c l i _ (r.to HB.out) hi).mono ?_
 rintro e w2 ⟨rfl, b2⟩
 go_wp2
 go_ret
 exact ⟨rfl, HB.out.trans b2⟩
theorem spec_FaceLevel (ro : Int) (A : Option Addr) (n c : Nat) (l : List Ce) (i : Nat) (w : World) (r : IdR w A n l) (hok : meshOk ro l = true) (hn : n ≤ 128) (hi : i + 1 < n) :
  Calls Try.prog 17 #[.agg #[.int .i64 ro, .slice A n c], .int .i64 (i : Int)] w fun e w' => e = .returned (.int .i64 (faceL l i)) ∧ Bw w w' := by
 have e1 : IntKind.i64.wrap ((n : Int) - 2) = (n : Int) - 2 := i64w (by omega) (by omega)
 have HR := hid (show inR (i : Int) 0 ((n : Int) - 2) = true from inR_iff.2 (by clear e1; omega))
 have b0 := Bw.box1 w (.cells #[.int .i64 ro, .slice A n c] 26)
 have g0 := box_cell (Bw.refl (w.alloc (.cells #[.int .i64 ro, .slice A n c] 26))) 0
 have g1 := box_cell (Bw.refl (w.alloc (.cells #[.int .i64 ro, .slice A n c] 26))) 1
 simp only [List.getElem?_toArray, List.getElem?_cons_zero, List.getElem?_cons_succ] at g0 g1
 have HOK := hid hok
 clear hok
 go_enter Try.func17, Try.ntmps17
 go_wp2_with fail
 refine (spec_MeshOk ro A n c l _ (r.to b0)).mono ?_
 rintro e w1 ⟨rfl, b1⟩
 rw [HOK.out]
 replace g0 := pw_cell_below b1.out g0
 replace g1 := pw_cell_below b1.out g1
 have HB := hid (b0.trans b1)
 clear b0 b1
 go_wp2_with fail
 refine (toBool (l01In _ _ _ _) HR.out).mono ?_
 rintro e w2 ⟨rfl, rfl⟩
 go_wp2_with fail
 refine (spec_l05Face ro A n c l i _ (r.to HB.out) hi).mono ?_
 rintro e w2 ⟨rfl, b2⟩
 go_wp2
 go_ret
 exact ⟨rfl, HB.out.trans b2⟩
end Go.Proofs.Ytkendhkaheoinaa.U
