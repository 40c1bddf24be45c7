
/- Weights of a valid mesh, by the program and by the reference. -/
import Derived.Test.YtenijmalcchciaaIa
import Derived.Test.YtenijmalcchciaaSk
import Derived.Test.YtenijmalcchciaaJv
import Derived.Test.YtenijmalcchciaaVw
import Derived.Test.YtenijmalcchciaaLJoinViews
import Derived.Test.YtenijmalcchciaaG8
set_option linter.unusedVariables false
set_option linter.unusedSimpArgs false
namespace Go.Proofs.Ytenijmalcchciaa.U
open Go.RowKit Go.Lib Go.Proofs.YtenijmalcchciaaW.PrintWords
end Go.Proofs.Ytenijmalcchciaa.U
set_option linter.unusedVariables false
set_option linter.unusedSimpArgs false
namespace Go.Proofs.Ytenijmalcchciaa.U
open Go.RowKit Go.Lib Go.Proofs.YtenijmalcchciaaW.PrintWords
open Go.Proofs.YtenijmalcchciaaW.PrintLast Go.Proofs.YtenijmalcchciaaW.PrintMore
/-- how many leaves the first j views have -/
def lc (L : List Vf) : Nat → Nat
 | 0 => 0
 | j + 1 => lc L j + (gv L j).lf.length / 3
/-- the cuts of the first j views -/
def cutL (L : List Vf) (j : Nat) : List Int := (List.range (j + 1)).map fun i => (lc L i : Int)
theorem cutL_snoc (L : List Vf) (j : Nat) : cutL L (j + 1) = cutL L j ++ [(lc L (j + 1) : Int)] := by
 rw [cutL, List.range_succ, List.map_append]
 rfl
theorem cutL_length (L : List Vf) (j : Nat) : (cutL L j).length = j + 1 := by simp [cutL]
theorem cutL_rd (L : List Vf) (j i : Nat) (h : i ≤ j) : rd (cutL L j) (i : Int) = (lc L i : Int) := by
 rw [rd_nat, cutL, List.getD_eq_getElem?_getD, List.getElem?_map, List.getElem?_range (by omega)]
 rfl
theorem lc_le (L : List Vf) : ∀ n j, j ≤ n → lc L j ≤ szTo L n
 | 0, j, h => by rw [show j = 0 by omega]; simp [lc]
 | n + 1, 0, h => by simp [lc]
 | n + 1, j + 1, h => by
  have h1 := lc_le L n j (by omega)
  rcases Nat.lt_or_ge (j + 1) (n + 1) with h2 | h2
  ·have h3 := lc_le L n (j + 1) (by omega)
   rw [szTo]
   omega
  ·have : j = n := by omega
   subst this
   rw [lc, szTo, vsz]
   omega
set_option maxHeartbeats 8000000 in
set_option maxRecDepth 100000 in
theorem impl_cutsOf (A : Option Addr) (n c : Nat) (L : List Vf) (w : World) (r : VwR w A n L) (hn : n + szTo L n ≤ 1048576) :
  Calls Try.prog 42 #[.slice A n c] w fun e w' => ∃ v, e = .returned v ∧ OI w' w.heap.size v (n + 1) (cutL L n) ∧ Bw w w' := by
 have hmax := r.max
 have HN := hid hn
 have o0 : OI (w.alloc (.cells #[.int .i64 0] 3)) w.heap.size (.slice (some ⟨w.heap.size, 0, none⟩) 1 1) 1 [0] := ⟨World.ownsRow_lit (base := w.heap.size) (e := 3) (size := 1) w #[.int .i64 0] 1 (Nat.le_refl _) (by simp [maxLen]) (by simp)⟩
 have b0 := Bw.box1 w (.cells #[.int .i64 0] 3)
 clear hn
 go_enter Try.func42, Try.ntmps42
 go_wp2
 go_loopw [3, 9] (fun v3 vi wr => ∃ j : Nat, j ≤ n ∧ vi = .int .i64 j ∧ OI wr w.heap.size v3 (j + 1) (cutL L j) ∧ Bw w wr) (fun _ vi _ => n - (intOf vi).toNat)
 case atStart => exact ⟨0, by omega, rfl, o0, b0⟩
 case round =>
  obtain ⟨j, hj, rfl, hO, hB⟩ := hrel
  clear o0 b0
  by_cases hlt : j < n
  ·have t1 : decide ((j : Int) < (n : Int)) = true := decide_eq_true (by omega)
   obtain ⟨AX, yx, rfl, _, f⟩ := FO.reads (t := 3) (k := 1) ⟨hO.out⟩
   obtain ⟨ax, rfl, hc⟩ := f.ri.nat j (by omega)
   rw [cutL_rd L j j (Nat.le_refl _)] at hc
   obtain ⟨ad, e, Al, nl, cl, Am, nm, cm, At, nt, ct, Ab, nb, cb, Ag, ng, cg, x0, x1, x2, x3, x4, x5, x6, _, hv⟩ := (r.to hB).nat j hlt
   have l1 := hv.l.len
   have hz : lc L (j + 1) = lc L j + nl := by rw [lc]; omega
   have hb1 := lc_le L n (j + 1) (by omega)
   have hNN := HN.out
   obtain ⟨x, hx⟩ : ∃ x : Int, (lc L j : Int) = x := ⟨_, rfl⟩
   obtain ⟨z, hz2⟩ : ∃ z : Int, (lc L (j + 1) : Int) = z := ⟨_, rfl⟩
   rw [hx] at hc
   have e1 : wrap64 (x + (nl : Int)) = z := by rw [← hx, ← hz2, hz]; push_cast; exact w64 (by omega) (by omega)
   have e2 : IntKind.i64.wrap (x + (nl : Int)) = z := by rw [← hx, ← hz2, hz]; push_cast; exact i64w (by omega) (by omega)
   have HZ := hid hz2
   have i0 : (0 : Int) ≤ (j : Int) := by omega
   have i1 : (j : Int) < ((j + 1 : Nat) : Int) := by omega
   have i2 : (j : Int) < (j : Int) + 1 := by omega
   clear hz hb1 hNN hx hz2 l1 hv f
   obtain rfl := e
   have b6 := Bw.box1 wr (.cells #[.int .i64 (gv L j).ro, .int .i64 (gv L j).fr, .slice Al nl cl, .slice Am nm cm, .slice At nt ct, .slice Ab nb cb, .slice Ag ng cg] 38)
   have g2 := box_cell (Bw.refl (wr.alloc (.cells #[.int .i64 (gv L j).ro, .int .i64 (gv L j).fr, .slice Al nl cl, .slice Am nm cm, .slice At nt ct, .slice Ab nb cb, .slice Ag ng cg] 38))) 2
   simp only [List.getElem?_toArray, List.getElem?_cons_zero, List.getElem?_cons_succ] at g2
   replace hc := pw_cell_below b6.out hc
   go_wp2
   refine start_ (n := 12) (S := fun w' => w'.cell? (ax.add j) = some (.int .i64 x) ∧ w'.cell? ⟨wr.heap.size, 2, none⟩ = some (.slice Al nl cl)) (ds := [9, 10, 11]) #[false, false, false, false, false, false, false, false, false, false, false, false] (by kernel_rfl) rfl rfl ⟨hc, g2⟩ (fun hHeld => ?_)
   refine pq_ (i := 0) (N := (some 14)) (v := ?_) (a' := ?_) rfl rfl (by kernel_rfl) (fun _ _ _ h => h) (Or.inl ⟨by rfl, ?_⟩) ?_ ?_
   rotate_left; (intro w'; go_simp; with_reducible rfl); rotate_left; (simp only [Act.put, s1_, s2_, s3_, i64_w, i32_w]; rfl)
   refine pq_ (i := 1) (N := (some 15)) (v := ?_) (a' := ?_) rfl rfl (by kernel_rfl) (fun _ _ _ h => h) (Or.inl ⟨by rfl, ?_⟩) ?_ ?_
   rotate_left; (intro w'; go_simp; with_reducible rfl); rotate_left; (simp only [Act.put, s1_, s2_, s3_, i64_w, i32_w]; rfl)
   refine pq_ (i := 2) (N := (some 16)) (v := ?_) (a' := ?_) rfl rfl (by kernel_rfl) (fun _ _ _ h => h) (Or.inl ⟨by rfl, ?_⟩) ?_ ?_
   rotate_left; (intro w'; go_simp; with_reducible rfl); rotate_left; (simp only [Act.put, s1_, s2_, s3_, i64_w, i32_w]; rfl)
   refine pq_ (i := 3) (N := (some 17)) (v := ?_) (a' := ?_) rfl rfl (by kernel_rfl) (fun _ _ _ h => h) (Or.inl ⟨by rfl, ?_⟩) ?_ ?_
   rotate_left; (intro w'; go_simp; with_reducible rfl); rotate_left; (simp only [Act.put, s1_, s2_, s3_, i64_w, i32_w]; rfl)
   refine tq_ (i := 4) (N := (some 18)) (v := ?_) (a' := ?_) rfl rfl (by kernel_rfl) (fun _ _ _ h => h) (Or.inl ⟨by rfl, ?_⟩) hHeld ?_ ?_
   rotate_left; (rintro w' ⟨s0, s1⟩; go_simp; with_reducible rfl); rotate_left; (simp only [Act.put, s1_, s2_, s3_, i64_w, i32_w]; rfl)
   refine pq_ (i := 5) (N := (some 19)) (v := ?_) (a' := ?_) rfl rfl (by kernel_rfl) (fun _ _ _ h => h) (Or.inl ⟨by rfl, ?_⟩) ?_ ?_
   rotate_left; (intro w'; go_simp; with_reducible rfl); rotate_left; (simp only [Act.put, s1_, s2_, s3_, i64_w, i32_w]; rfl)
   refine tq_ (i := 6) (N := (some 20)) (v := ?_) (a' := ?_) rfl rfl (by kernel_rfl) (fun _ _ _ h => h) (Or.inl ⟨by rfl, ?_⟩) hHeld ?_ ?_
   rotate_left; (rintro w' ⟨s0, s1⟩; go_simp; with_reducible rfl); rotate_left; (simp only [Act.put, s1_, s2_, s3_, i64_w, i32_w]; rfl)
   refine pq_ (i := 7) (N := (some 21)) (v := ?_) (a' := ?_) rfl rfl (by kernel_rfl) (fun _ _ _ h => h) (Or.inl ⟨by rfl, ?_⟩) ?_ ?_
   rotate_left; (intro w'; go_simp; with_reducible rfl); rotate_left; (simp only [Act.put, s1_, s2_, s3_, i64_w, i32_w]; rfl)
   refine pq_ (i := 8) (N := (some 22)) (v := ?_) (a' := ?_) rfl rfl (by kernel_rfl) (fun _ _ _ h => h) (Or.inl ⟨by rfl, ?_⟩) ?_ ?_
   rotate_left; (intro w'; go_simp; with_reducible rfl); rotate_left; (simp only [Act.put, s1_, s2_, s3_, i64_w, i32_w]; rfl)
   refine last_ (i := 9) (N := (some 23)) #[true, true, true, true, true, true, true, true, true, true, false, false] rfl rfl (by kernel_rfl) (by decide) (fun K hK => ?_)
   refine value_ (w1 := ?_) (v := ?_) (by rfl) rfl ?_ ?_
   rotate_left 2
   ·go_simp
    constructor
    ·rfl
    ·rfl
   refine hK.out _ _ ?_
   clear hK K; refine norm_ (a' := ?_) ?_ ?_; rotate_left; (show Act.put _ (some 23) _ = _; simp only [Act.put, s1_, s2_, s3_, i64_w, i32_w]; rfl)
   refine last_ (i := 10) (N := (some 24)) #[true, true, true, true, true, true, true, true, true, true, true, false] rfl rfl (by kernel_rfl) (by decide) (fun K hK => ?_)
   refine step_append_cells (w0 := w) w.heap.size (by rfl) (.tmp 14) (.tmp 23) 31 3 (.int .i64 0) 1 8 rfl Try.underlying31 info_int rfl (by decide) (by decide) (.slice (some ax) (j + 1) yx) (j + 1) (nums .i64 (cutL L j)) [.int .i64 z] rfl (by show Value.slice (some ⟨wr.heap.size + 1, 0, none⟩) 1 1 = _; simp) rfl (by simp [Value.oneCell']) (hO.to (b6.trans (Bw.drawn ⟨⟨1, rfl⟩⟩))).out (hB.trans (b6.trans (Bw.drawn ⟨⟨1, rfl⟩⟩))).out (hB.trans (b6.trans (Bw.drawn ⟨⟨1, rfl⟩⟩))).size (by have := HN.out; omega) ?_
   intro v1 w9 hown1 hB1 hg1 _
   refine hK.out _ _ ?_
   clear hK K; refine norm_ (a' := ?_) ?_ ?_; rotate_left; (show Act.put _ (some 24) _ = _; simp only [Act.put, s1_, s2_, s3_, i64_w, i32_w]; rfl)
   have hO9 : OI w9 w.heap.size v1 (j + 1 + 1) (cutL L (j + 1)) := by rw [cutL_snoc, HZ.out]; exact ⟨by rw [nums_append]; exact hown1⟩
   have hB9 : Bw w w9 := ⟨hB1⟩
   refine last_ (i := 11) (N := (some 3)) #[true, true, true, true, true, true, true, true, true, true, true, true] rfl rfl (by kernel_rfl) (by decide) (fun K hK => ?_)
   refine value_ (w1 := ?_) (v := ?_) (by rfl) rfl ?_ ?_
   rotate_left 2
   ·go_simp
    constructor
    ·rfl
    ·rfl
   refine hK.out _ _ ?_
   clear hK K; refine norm_ (a' := ?_) ?_ ?_; rotate_left; (show Act.put _ (some 3) _ = _; simp only [Act.put, s1_, s2_, s3_, i64_w, i32_w]; rfl)
   refine done_ (by kernel_rfl) ?_
   go_wp2
   go_roundw
   case rel => exact ⟨j + 1, by omega, by go_num, hO9, hB9⟩
   case measure => simp [intOf]; omega
  ·obtain rfl : j = n := by omega
   have t1 : decide ((j : Int) < (j : Int)) = false := decide_eq_false (by omega)
   have HO := hid hO
   clear hO
   go_wp2
   go_ret
   exact ⟨_, rfl, HO.out, hB⟩
set_option maxHeartbeats 8000000 in
set_option maxRecDepth 100000 in
theorem spec_l24Cuts (A : Option Addr) (n c : Nat) (L : List Vf) (w : World) (r : VwR w A n L) (hn : n + szTo L n ≤ 1048576) :
  Calls Try.prog 39 #[.slice A n c] w fun e w' => ∃ v, e = .returned v ∧ OI w' w.heap.size v (n + 1) (cutL L n) ∧ Bw w w' := by
 have hmax := r.max
 have HN := hid hn
 have o0 : OI (w.alloc (.cells #[.int .i64 0] 3)) w.heap.size (.slice (some ⟨w.heap.size, 0, none⟩) 1 1) 1 [0] := ⟨World.ownsRow_lit (base := w.heap.size) (e := 3) (size := 1) w #[.int .i64 0] 1 (Nat.le_refl _) (by simp [maxLen]) (by simp)⟩
 have b0 := Bw.box1 w (.cells #[.int .i64 0] 3)
 clear hn
 go_enter Try.func39, Try.ntmps39
 go_wp2
 go_loopw [3, 4] (fun v3 vi wr => ∃ j : Nat, j ≤ n ∧ vi = .int .i64 j ∧ OI wr w.heap.size v3 (j + 1) (cutL L j) ∧ Bw w wr) (fun _ vi _ => n - (intOf vi).toNat)
 case atStart => exact ⟨0, by omega, rfl, o0, b0⟩
 case round =>
  obtain ⟨j, hj, rfl, hO, hB⟩ := hrel
  clear o0 b0
  by_cases hlt : j < n
  ·have t1 : decide ((j : Int) < (n : Int)) = true := decide_eq_true (by omega)
   obtain ⟨AX, yx, rfl, _, f⟩ := FO.reads (t := 3) (k := 1) ⟨hO.out⟩
   obtain ⟨ax, rfl, hc⟩ := f.ri.nat j (by omega)
   rw [cutL_rd L j j (Nat.le_refl _)] at hc
   obtain ⟨ad, e, Al, nl, cl, Am, nm, cm, At, nt, ct, Ab, nb, cb, Ag, ng, cg, x0, x1, x2, x3, x4, x5, x6, _, hv⟩ := (r.to hB).nat j hlt
   have l1 := hv.l.len
   have hz : lc L (j + 1) = lc L j + nl := by rw [lc]; omega
   have hb1 := lc_le L n (j + 1) (by omega)
   have hNN := HN.out
   obtain ⟨x, hx⟩ : ∃ x : Int, (lc L j : Int) = x := ⟨_, rfl⟩
   obtain ⟨z, hz2⟩ : ∃ z : Int, (lc L (j + 1) : Int) = z := ⟨_, rfl⟩
   rw [hx] at hc
   have e1 : wrap64 (x + (nl : Int)) = z := by rw [← hx, ← hz2, hz]; push_cast; exact w64 (by omega) (by omega)
   have e2 : IntKind.i64.wrap (x + (nl : Int)) = z := by rw [← hx, ← hz2, hz]; push_cast; exact i64w (by omega) (by omega)
   have HZ := hid hz2
   have i0 : (0 : Int) ≤ (j : Int) := by omega
   have i1 : (j : Int) < ((j + 1 : Nat) : Int) := by omega
   have i2 : (j : Int) < (j : Int) + 1 := by omega
   clear hz hb1 hNN hx hz2 l1 hv f
   obtain rfl := e
   go_wp2
   refine start_ (n := 15) (S := fun w' => w'.cell? (ax.add j) = some (.int .i64 x) ∧ w'.cell? ⟨(ad.add (j * 7)).block, (ad.add (j * 7)).off + 2, none⟩ = some (.slice Al nl cl)) (ds := [12, 13, 14]) #[false, false, false, false, false, false, false, false, false, false, false, false, false, false, false] (by kernel_rfl) rfl rfl ⟨hc, x2⟩ (fun hHeld => ?_)
   refine pq_ (i := 0) (N := (some 12)) (v := ?_) (a' := ?_) rfl rfl (by kernel_rfl) (fun _ _ _ h => h) (Or.inl ⟨by rfl, ?_⟩) ?_ ?_
   rotate_left; (intro w'; go_simp; with_reducible rfl); rotate_left; (simp only [Act.put, s1_, s2_, s3_, i64_w, i32_w]; rfl)
   refine pq_ (i := 1) (N := (some 13)) (v := ?_) (a' := ?_) rfl rfl (by kernel_rfl) (fun _ _ _ h => h) (Or.inl ⟨by rfl, ?_⟩) ?_ ?_
   rotate_left; (intro w'; go_simp; with_reducible rfl); rotate_left; (simp only [Act.put, s1_, s2_, s3_, i64_w, i32_w]; rfl)
   refine pq_ (i := 2) (N := (some 14)) (v := ?_) (a' := ?_) rfl rfl (by kernel_rfl) (fun _ _ _ h => h) (Or.inl ⟨by rfl, ?_⟩) ?_ ?_
   rotate_left; (intro w'; go_simp; with_reducible rfl); rotate_left; (simp only [Act.put, s1_, s2_, s3_, i64_w, i32_w]; rfl)
   refine pq_ (i := 3) (N := (some 15)) (v := ?_) (a' := ?_) rfl rfl (by kernel_rfl) (fun _ _ _ h => h) (Or.inl ⟨by rfl, ?_⟩) ?_ ?_
   rotate_left; (intro w'; go_simp; with_reducible rfl); rotate_left; (simp only [Act.put, s1_, s2_, s3_, i64_w, i32_w]; rfl)
   refine tq_ (i := 4) (N := (some 16)) (v := ?_) (a' := ?_) rfl rfl (by kernel_rfl) (fun _ _ _ h => h) (Or.inl ⟨by rfl, ?_⟩) hHeld ?_ ?_
   rotate_left; (rintro w' ⟨s0, s1⟩; go_simp; with_reducible rfl); rotate_left; (simp only [Act.put, s1_, s2_, s3_, i64_w, i32_w]; rfl)
   refine pq_ (i := 5) (N := (some 17)) (v := ?_) (a' := ?_) rfl rfl (by kernel_rfl) (fun _ _ _ h => h) (Or.inl ⟨by rfl, ?_⟩) ?_ ?_
   rotate_left; (intro w'; go_simp; with_reducible rfl); rotate_left; (simp only [Act.put, s1_, s2_, s3_, i64_w, i32_w]; rfl)
   refine pq_ (i := 6) (N := (some 18)) (v := ?_) (a' := ?_) rfl rfl (by kernel_rfl) (fun _ _ _ h => h) (Or.inl ⟨by rfl, ?_⟩) ?_ ?_
   rotate_left; (intro w'; go_simp; with_reducible rfl); rotate_left; (simp only [Act.put, s1_, s2_, s3_, i64_w, i32_w]; rfl)
   refine pq_ (i := 7) (N := (some 19)) (v := ?_) (a' := ?_) rfl rfl (by kernel_rfl) (fun _ _ _ h => h) (Or.inl ⟨by rfl, ?_⟩) ?_ ?_
   rotate_left; (intro w'; go_simp; with_reducible rfl); rotate_left; (simp only [Act.put, s1_, s2_, s3_, i64_w, i32_w]; rfl)
   refine pq_ (i := 8) (N := (some 20)) (v := ?_) (a' := ?_) rfl rfl (by kernel_rfl) (fun _ _ _ h => h) (Or.inl ⟨by rfl, ?_⟩) ?_ ?_
   rotate_left; (intro w'; go_simp; with_reducible rfl); rotate_left; (simp only [Act.put, s1_, s2_, s3_, i64_w, i32_w]; rfl)
   refine tq_ (i := 9) (N := (some 21)) (v := ?_) (a' := ?_) rfl rfl (by kernel_rfl) (fun _ _ _ h => h) (Or.inl ⟨by rfl, ?_⟩) hHeld ?_ ?_
   rotate_left; (rintro w' ⟨s0, s1⟩; go_simp; with_reducible rfl); rotate_left; (simp only [Act.put, s1_, s2_, s3_, i64_w, i32_w]; rfl)
   refine pq_ (i := 10) (N := (some 22)) (v := ?_) (a' := ?_) rfl rfl (by kernel_rfl) (fun _ _ _ h => h) (Or.inl ⟨by rfl, ?_⟩) ?_ ?_
   rotate_left; (intro w'; go_simp; with_reducible rfl); rotate_left; (simp only [Act.put, s1_, s2_, s3_, i64_w, i32_w]; rfl)
   refine pq_ (i := 11) (N := (some 23)) (v := ?_) (a' := ?_) rfl rfl (by kernel_rfl) (fun _ _ _ h => h) (Or.inl ⟨by rfl, ?_⟩) ?_ ?_
   rotate_left; (intro w'; go_simp; with_reducible rfl); rotate_left; (simp only [Act.put, s1_, s2_, s3_, i64_w, i32_w]; rfl)
   refine last_ (i := 12) (N := (some 24)) #[true, true, true, true, true, true, true, true, true, true, true, true, true, false, false] rfl rfl (by kernel_rfl) (by decide) (fun K hK => ?_)
   refine value_ (w1 := ?_) (v := ?_) (by rfl) rfl ?_ ?_
   rotate_left 2
   ·go_simp
    constructor
    ·rfl
    ·rfl
   refine hK.out _ _ ?_
   clear hK K; refine norm_ (a' := ?_) ?_ ?_; rotate_left; (show Act.put _ (some 24) _ = _; simp only [Act.put, s1_, s2_, s3_, i64_w, i32_w]; rfl)
   refine last_ (i := 13) (N := (some 25)) #[true, true, true, true, true, true, true, true, true, true, true, true, true, true, false] rfl rfl (by kernel_rfl) (by decide) (fun K hK => ?_)
   refine step_append_cells (w0 := w) w.heap.size (by rfl) (.tmp 12) (.tmp 24) 31 3 (.int .i64 0) 1 8 rfl Try.underlying31 info_int rfl (by decide) (by decide) (.slice (some ax) (j + 1) yx) (j + 1) (nums .i64 (cutL L j)) [.int .i64 z] rfl rfl rfl (by simp [Value.oneCell']) (hO.to (Bw.drawn ⟨⟨1, rfl⟩⟩)).out (hB.trans (Bw.drawn ⟨⟨1, rfl⟩⟩)).out (hB.trans (Bw.drawn ⟨⟨1, rfl⟩⟩)).size (by have := HN.out; omega) ?_
   intro v1 w9 hown1 hB1 hg1 _
   refine hK.out _ _ ?_
   clear hK K; refine norm_ (a' := ?_) ?_ ?_; rotate_left; (show Act.put _ (some 25) _ = _; simp only [Act.put, s1_, s2_, s3_, i64_w, i32_w]; rfl)
   have hO9 : OI w9 w.heap.size v1 (j + 1 + 1) (cutL L (j + 1)) := by rw [cutL_snoc, HZ.out]; exact ⟨by rw [nums_append]; exact hown1⟩
   have hB9 : Bw w w9 := ⟨hB1⟩
   refine last_ (i := 14) (N := (some 3)) #[true, true, true, true, true, true, true, true, true, true, true, true, true, true, true] rfl rfl (by kernel_rfl) (by decide) (fun K hK => ?_)
   refine value_ (w1 := ?_) (v := ?_) (by rfl) rfl ?_ ?_
   rotate_left 2
   ·go_simp
    constructor
    ·rfl
    ·rfl
   refine hK.out _ _ ?_
   clear hK K; refine norm_ (a' := ?_) ?_ ?_; rotate_left; (show Act.put _ (some 3) _ = _; simp only [Act.put, s1_, s2_, s3_, i64_w, i32_w]; rfl)
   refine done_ (by kernel_rfl) ?_
   go_wp2
   go_roundw
   case rel => exact ⟨j + 1, by omega, by go_num, hO9, hB9⟩
   case measure => simp [intOf]; omega
  ·obtain rfl : j = n := by omega
   have t1 : decide ((j : Int) < (j : Int)) = false := decide_eq_false (by omega)
   have HO := hid hO
   clear hO
   go_wp2
   go_ret
   exact ⟨_, rfl, HO.out, hB⟩
end Go.Proofs.Ytenijmalcchciaa.U
set_option linter.unusedVariables false
set_option linter.unusedSimpArgs false
namespace Go.Proofs.Ytenijmalcchciaa.U
open Go.RowKit Go.Lib Go.Proofs.YtenijmalcchciaaW.PrintWords
end Go.Proofs.Ytenijmalcchciaa.U
set_option linter.unusedVariables false
set_option linter.unusedSimpArgs false
namespace Go.Proofs.Ytenijmalcchciaa.U
open Go.RowKit Go.Lib Go.Proofs.YtenijmalcchciaaW.PrintWords
end Go.Proofs.Ytenijmalcchciaa.U
set_option linter.unusedVariables false
set_option linter.unusedSimpArgs false
namespace Go.Proofs.Ytenijmalcchciaa.U
open Go.RowKit Go.Lib Go.Proofs.YtenijmalcchciaaW.PrintWords
end Go.Proofs.Ytenijmalcchciaa.U
