
/- Weights of a valid mesh, by the program and by the reference. -/
import Derived.Test.YtaemkneppphkmaaIa
import Derived.Test.YtaemkneppphkmaaSk
import Derived.Test.YtaemkneppphkmaaJv
import Derived.Test.YtaemkneppphkmaaVw
import Derived.Test.YtaemkneppphkmaaLJoinViews
import Derived.Test.YtaemkneppphkmaaG8
set_option linter.unusedVariables false
set_option linter.unusedSimpArgs false
namespace Go.Proofs.Ytaemkneppphkmaa.U
open Go.RowKit Go.Lib Go.Proofs.YtaemkneppphkmaaW.PrintWords

/-- the weights of cells -/
def wts (l : List Ce) : List Int := l.map fun c => pow2 c.l
theorem wts_length (l : List Ce) : (wts l).length = l.length := by simp [wts]
theorem wts_snoc {l : List Ce} {j : Nat} (h : j < l.length) : (wts l).take (j + 1) = (wts l).take j ++ [pow2 (gc l j).l] := by
  rw [List.take_add_one, wts, List.getElem?_map, List.getElem?_eq_getElem h, gc_at h]
  rfl
set_option maxHeartbeats 8000000 in
set_option maxRecDepth 100000 in
theorem impl_WeightsOf (ro : Int) (A : Option Addr) (n c : Nat) (l : List Ce) (w : World) (r : IdR w A n l) (hm : meshOk ro l = true) :
    Calls Try.prog 10 #[.agg #[.int .i64 ro, .slice A n c]] w fun e w' => ∃ v, e = .returned v ∧ OI w' w.heap.size v (wts l).length (wts l) ∧ Bw w w' := by
  have hl := r.len
  have HL := hid hl
  have hn := hid (show n ≤ 128 by have := (meshOk_len hm).1; omega)
  have hlv := hid (meshOk_lvs hm)
  have b0 := Bw.box1 w (.cells #[.int .i64 ro, .slice A n c] 26)
  have g0 := box_cell (Bw.refl (w.alloc (.cells #[.int .i64 ro, .slice A n c] 26))) 0
  have g1 := box_cell (Bw.refl (w.alloc (.cells #[.int .i64 ro, .slice A n c] 26))) 1
  simp only [List.getElem?_toArray, List.getElem?_cons_zero, List.getElem?_cons_succ] at g0 g1
  have HM := hid hm
  have hmax := r.max
  clear hl hm
  go_enter Try.func10, Try.ntmps10
  go_wp2_with fail
  refine (impl_MeshOk ro A n c l _ (r.to b0)).mono ?_
  rintro e w1 ⟨rfl, b1⟩
  rw [HM.out]
  replace g0 := pw_cell_below b1.out g0
  replace g1 := pw_cell_below b1.out g1
  replace b0 := b0.trans b1
  have o0 : OI (w1.alloc (.cells #[] 3)) w.heap.size (.slice (some ⟨w1.heap.size, 0, none⟩) 0 0) 0 [] := OI.lit0 w1 w.heap.size b0.size
  have b2 := b0.trans (Bw.box1 w1 (.cells #[] 3))
  have g1' := pw_cell_below (Bw.box1 w1 (.cells #[] 3)).out g1
  clear b1 b0
  go_wp2
  go_loopw [3, 13] (fun v3 v13 wr => ∃ j : Nat, j ≤ n ∧ v13 = .int .i64 j ∧ OI wr w.heap.size v3 ((wts l).take j).length ((wts l).take j) ∧ Bw w wr) (fun _ v13 _ => n - (intOf v13).toNat)
  case atStart => exact ⟨0, by omega, rfl, by simpa using o0, b2⟩
  case round =>
    obtain ⟨j, hj, rfl, hO, hB⟩ := hrel
    by_cases hlt : j < n
    · have t1 : decide ((j : Int) < (n : Int)) = true := decide_eq_true (by omega)
      obtain ⟨ad, rfl, x0, x1, x2⟩ := (r.to hB).at j hlt
      have HS := hid (wts_snoc (l := l) (j := j) (by rw [HL.out]; exact hlt))
      have hlj := hlv.out.out j (by rw [HL.out]; exact hlt)
      have htl : Hid (((wts l).take j).length = j) := hid (by rw [List.length_take, wts_length, HL.out]; omega)
      have h5 : (gc l j).l = 0 ∨ (gc l j).l = 1 ∨ (gc l j).l = 2 ∨ (gc l j).l = 3 ∨ (gc l j).l = 4 := by omega
      clear hlj
      rcases h5 with hc | hc | hc | hc | hc
      · rw [hc] at x1 HS
        have b6 := Bw.box1 wr (.cells #[.int .i64 (gc l j).r, .int .i64 0, .int .i64 (gc l j).i] 32)
        have g1 := box_cell (Bw.refl (wr.alloc (.cells #[.int .i64 (gc l j).r, .int .i64 0, .int .i64 (gc l j).i] 32))) 1
        simp only [List.getElem?_toArray, List.getElem?_cons_zero, List.getElem?_cons_succ] at g1
        have hO' := hO.to b6
        have hB' := hB.trans b6
        clear b6 hc
        go_wp2_with (at_builtin; refine print_append_num (w0 := w) w.heap.size rfl _ _ 28 3 .i64 8 rfl Try.underlying28 info_int (by omega) u3 ((wts l).take j) 1 rfl (by show Value.slice (some ⟨wr.heap.size + 1, 0, none⟩) 1 1 = _; simp) hO'.out hB'.out hB'.size (by have := hn.out; have := htl.out; omega) ?_; intro v1 w3 hown1 hB1 hg1 _)
        go_roundw
        case rel => exact ⟨j + 1, by omega, by go_num, by rw [HS.out]; exact ⟨hown1⟩, ⟨hB1⟩⟩
        case measure => simp [intOf]; omega
      · rw [hc] at x1 HS
        have b6 := Bw.box1 wr (.cells #[.int .i64 (gc l j).r, .int .i64 1, .int .i64 (gc l j).i] 32)
        have g1 := box_cell (Bw.refl (wr.alloc (.cells #[.int .i64 (gc l j).r, .int .i64 1, .int .i64 (gc l j).i] 32))) 1
        simp only [List.getElem?_toArray, List.getElem?_cons_zero, List.getElem?_cons_succ] at g1
        have hO' := hO.to b6
        have hB' := hB.trans b6
        clear b6 hc
        go_wp2_with (at_builtin; refine print_append_num (w0 := w) w.heap.size rfl _ _ 28 3 .i64 8 rfl Try.underlying28 info_int (by omega) u3 ((wts l).take j) 2 rfl (by show Value.slice (some ⟨wr.heap.size + 1, 0, none⟩) 1 1 = _; simp) hO'.out hB'.out hB'.size (by have := hn.out; have := htl.out; omega) ?_; intro v1 w3 hown1 hB1 hg1 _)
        go_roundw
        case rel => exact ⟨j + 1, by omega, by go_num, by rw [HS.out]; exact ⟨hown1⟩, ⟨hB1⟩⟩
        case measure => simp [intOf]; omega
      · rw [hc] at x1 HS
        have b6 := Bw.box1 wr (.cells #[.int .i64 (gc l j).r, .int .i64 2, .int .i64 (gc l j).i] 32)
        have g1 := box_cell (Bw.refl (wr.alloc (.cells #[.int .i64 (gc l j).r, .int .i64 2, .int .i64 (gc l j).i] 32))) 1
        simp only [List.getElem?_toArray, List.getElem?_cons_zero, List.getElem?_cons_succ] at g1
        have hO' := hO.to b6
        have hB' := hB.trans b6
        clear b6 hc
        go_wp2_with (at_builtin; refine print_append_num (w0 := w) w.heap.size rfl _ _ 28 3 .i64 8 rfl Try.underlying28 info_int (by omega) u3 ((wts l).take j) 4 rfl (by show Value.slice (some ⟨wr.heap.size + 1, 0, none⟩) 1 1 = _; simp) hO'.out hB'.out hB'.size (by have := hn.out; have := htl.out; omega) ?_; intro v1 w3 hown1 hB1 hg1 _)
        go_roundw
        case rel => exact ⟨j + 1, by omega, by go_num, by rw [HS.out]; exact ⟨hown1⟩, ⟨hB1⟩⟩
        case measure => simp [intOf]; omega
      · rw [hc] at x1 HS
        have b6 := Bw.box1 wr (.cells #[.int .i64 (gc l j).r, .int .i64 3, .int .i64 (gc l j).i] 32)
        have g1 := box_cell (Bw.refl (wr.alloc (.cells #[.int .i64 (gc l j).r, .int .i64 3, .int .i64 (gc l j).i] 32))) 1
        simp only [List.getElem?_toArray, List.getElem?_cons_zero, List.getElem?_cons_succ] at g1
        have hO' := hO.to b6
        have hB' := hB.trans b6
        clear b6 hc
        go_wp2_with (at_builtin; refine print_append_num (w0 := w) w.heap.size rfl _ _ 28 3 .i64 8 rfl Try.underlying28 info_int (by omega) u3 ((wts l).take j) 8 rfl (by show Value.slice (some ⟨wr.heap.size + 1, 0, none⟩) 1 1 = _; simp) hO'.out hB'.out hB'.size (by have := hn.out; have := htl.out; omega) ?_; intro v1 w3 hown1 hB1 hg1 _)
        go_roundw
        case rel => exact ⟨j + 1, by omega, by go_num, by rw [HS.out]; exact ⟨hown1⟩, ⟨hB1⟩⟩
        case measure => simp [intOf]; omega
      · rw [hc] at x1 HS
        have b6 := Bw.box1 wr (.cells #[.int .i64 (gc l j).r, .int .i64 4, .int .i64 (gc l j).i] 32)
        have g1 := box_cell (Bw.refl (wr.alloc (.cells #[.int .i64 (gc l j).r, .int .i64 4, .int .i64 (gc l j).i] 32))) 1
        simp only [List.getElem?_toArray, List.getElem?_cons_zero, List.getElem?_cons_succ] at g1
        have hO' := hO.to b6
        have hB' := hB.trans b6
        clear b6 hc
        go_wp2_with (at_builtin; refine print_append_num (w0 := w) w.heap.size rfl _ _ 28 3 .i64 8 rfl Try.underlying28 info_int (by omega) u3 ((wts l).take j) 16 rfl (by show Value.slice (some ⟨wr.heap.size + 1, 0, none⟩) 1 1 = _; simp) hO'.out hB'.out hB'.size (by have := hn.out; have := htl.out; omega) ?_; intro v1 w3 hown1 hB1 hg1 _)
        go_roundw
        case rel => exact ⟨j + 1, by omega, by go_num, by rw [HS.out]; exact ⟨hown1⟩, ⟨hB1⟩⟩
        case measure => simp [intOf]; omega
    · obtain rfl : j = n := by omega
      have t1 : decide ((j : Int) < (j : Int)) = false := decide_eq_false (by omega)
      have hfin : Hid ((wts l).take j = wts l) := hid (List.take_of_length_le (by rw [wts_length, HL.out]; omega))
      have HO := hid hO
      clear hO
      go_wp2
      go_ret
      exact ⟨_, rfl, by have := HO.out; rw [hfin.out] at this; exact this, hB⟩
end Go.Proofs.Ytaemkneppphkmaa.U
set_option linter.unusedVariables false
set_option linter.unusedSimpArgs false
namespace Go.Proofs.Ytaemkneppphkmaa.U
open Go.RowKit Go.Lib Go.Proofs.YtaemkneppphkmaaW.PrintWords

open Go.Proofs.YtaemkneppphkmaaW.PrintLast Go.Proofs.YtaemkneppphkmaaW.PrintMore

/-- how many leaves the first j views have -/
def lc (L : List Vf) : Nat → Nat
  | 0 => 0
  | j + 1 => lc L j + (gv L j).lf.length / 3
/-- the cuts of the first j views -/
def cutL (L : List Vf) (j : Nat) : List Int := (List.range (j + 1)).map fun i => (lc L i : Int)
theorem cutL_snoc (L : List Vf) (j : Nat) : cutL L (j + 1) = cutL L j ++ [(lc L (j + 1) : Int)] := by
  rw [cutL, List.range_succ, List.map_append]
  rfl
theorem cutL_length (L : List Vf) (j : Nat) : (cutL L j).length = j + 1 := by simp [cutL]
theorem cutL_rd (L : List Vf) (j i : Nat) (h : i ≤ j) : rd (cutL L j) (i : Int) = (lc L i : Int) := by
  rw [rd_nat, cutL, List.getD_eq_getElem?_getD, List.getElem?_map, List.getElem?_range (by omega)]
  rfl
theorem lc_le (L : List Vf) : ∀ n j, j ≤ n → lc L j ≤ szTo L n
  | 0, j, h => by rw [show j = 0 by omega]; simp [lc]
  | n + 1, 0, h => by simp [lc]
  | n + 1, j + 1, h => by
    have h1 := lc_le L n j (by omega)
    rcases Nat.lt_or_ge (j + 1) (n + 1) with h2 | h2
    · have h3 := lc_le L n (j + 1) (by omega)
      rw [szTo]
      omega
    · have : j = n := by omega
      subst this
      rw [lc, szTo, vsz]
      omega
set_option maxHeartbeats 8000000 in
set_option maxRecDepth 100000 in
theorem impl_cutsOf (A : Option Addr) (n c : Nat) (L : List Vf) (w : World) (r : VwR w A n L) (hn : n + szTo L n ≤ 1048576) :
    Calls Try.prog 43 #[.slice A n c] w fun e w' => ∃ v, e = .returned v ∧ OI w' w.heap.size v (n + 1) (cutL L n) ∧ Bw w w' := by
  have hmax := r.max
  have HN := hid hn
  have o0 : OI (w.alloc (.cells #[.int .i64 0] 3)) w.heap.size (.slice (some ⟨w.heap.size, 0, none⟩) 1 1) 1 [0] := ⟨World.ownsRow_lit (base := w.heap.size) (e := 3) (size := 1) w #[.int .i64 0] 1 (Nat.le_refl _) (by simp [maxLen]) (by simp)⟩
  have b0 := Bw.box1 w (.cells #[.int .i64 0] 3)
  clear hn
  go_enter Try.func43, Try.ntmps43
  go_wp2
  go_loopw [3, 9] (fun v3 vi wr => ∃ j : Nat, j ≤ n ∧ vi = .int .i64 j ∧ OI wr w.heap.size v3 (j + 1) (cutL L j) ∧ Bw w wr) (fun _ vi _ => n - (intOf vi).toNat)
  case atStart => exact ⟨0, by omega, rfl, o0, b0⟩
  case round =>
    obtain ⟨j, hj, rfl, hO, hB⟩ := hrel
    clear o0 b0
    by_cases hlt : j < n
    · have t1 : decide ((j : Int) < (n : Int)) = true := decide_eq_true (by omega)
      obtain ⟨AX, yx, rfl, _, f⟩ := FO.reads (t := 3) (k := 1) ⟨hO.out⟩
      obtain ⟨ax, rfl, hc⟩ := f.ri.nat j (by omega)
      rw [cutL_rd L j j (Nat.le_refl _)] at hc
      obtain ⟨ad, e, Al, nl, cl, Am, nm, cm, At, nt, ct, Ab, nb, cb, Ag, ng, cg, x0, x1, x2, x3, x4, x5, x6, _, hv⟩ := (r.to hB).nat j hlt
      have l1 := hv.l.len
      have hz : lc L (j + 1) = lc L j + nl := by rw [lc]; omega
      have hb1 := lc_le L n (j + 1) (by omega)
      have hNN := HN.out
      obtain ⟨x, hx⟩ : ∃ x : Int, (lc L j : Int) = x := ⟨_, rfl⟩
      obtain ⟨z, hz2⟩ : ∃ z : Int, (lc L (j + 1) : Int) = z := ⟨_, rfl⟩
      rw [hx] at hc
      have e1 : wrap64 (x + (nl : Int)) = z := by rw [← hx, ← hz2, hz]; push_cast; exact w64 (by omega) (by omega)
      have e2 : IntKind.i64.wrap (x + (nl : Int)) = z := by rw [← hx, ← hz2, hz]; push_cast; exact i64w (by omega) (by omega)
      have HZ := hid hz2
      have i0 : (0 : Int) ≤ (j : Int) := by omega
      have i1 : (j : Int) < ((j + 1 : Nat) : Int) := by omega
      have i2 : (j : Int) < (j : Int) + 1 := by omega
      clear hz hb1 hNN hx hz2 l1 hv f
      obtain rfl := e
      have b6 := Bw.box1 wr (.cells #[.int .i64 (gv L j).ro, .int .i64 (gv L j).fr, .slice Al nl cl, .slice Am nm cm, .slice At nt ct, .slice Ab nb cb, .slice Ag ng cg] 45)
      have g2 := box_cell (Bw.refl (wr.alloc (.cells #[.int .i64 (gv L j).ro, .int .i64 (gv L j).fr, .slice Al nl cl, .slice Am nm cm, .slice At nt ct, .slice Ab nb cb, .slice Ag ng cg] 45))) 2
      simp only [List.getElem?_toArray, List.getElem?_cons_zero, List.getElem?_cons_succ] at g2
      replace hc := pw_cell_below b6.out hc
      go_wp2
      refine start_ (n := 12) (S := fun w' => w'.cell? (ax.add j) = some (.int .i64 x) ∧ w'.cell? ⟨wr.heap.size, 2, none⟩ = some (.slice Al nl cl)) (ds := [9, 10, 11]) #[false, false, false, false, false, false, false, false, false, false, false, false] (by kernel_rfl) rfl rfl ⟨hc, g2⟩ (fun hHeld => ?_)
      refine pure_ (i := 0) (N := (some 14)) (v := ?_) (a' := ?_) #[true, false, false, false, false, false, false, false, false, false, false, false] rfl rfl (by kernel_rfl) (fun _ _ _ h => h) (Or.inl ⟨by rfl, ?_⟩) ?_ ?_
      rotate_left
      · intro w'
        go_simp
        with_reducible rfl
      rotate_left
      · simp only [Act.put, List.setIfInBounds_toArray, List.set_cons_zero, List.set_cons_succ, i64_w, i32_w]
        rfl
      refine pure_ (i := 1) (N := (some 15)) (v := ?_) (a' := ?_) #[true, true, false, false, false, false, false, false, false, false, false, false] rfl rfl (by kernel_rfl) (fun _ _ _ h => h) (Or.inl ⟨by rfl, ?_⟩) ?_ ?_
      rotate_left
      · intro w'
        go_simp
        with_reducible rfl
      rotate_left
      · simp only [Act.put, List.setIfInBounds_toArray, List.set_cons_zero, List.set_cons_succ, i64_w, i32_w]
        rfl
      refine pure_ (i := 2) (N := (some 16)) (v := ?_) (a' := ?_) #[true, true, true, false, false, false, false, false, false, false, false, false] rfl rfl (by kernel_rfl) (fun _ _ _ h => h) (Or.inl ⟨by rfl, ?_⟩) ?_ ?_
      rotate_left
      · intro w'
        go_simp
        with_reducible rfl
      rotate_left
      · simp only [Act.put, List.setIfInBounds_toArray, List.set_cons_zero, List.set_cons_succ, i64_w, i32_w]
        rfl
      refine pure_ (i := 3) (N := (some 17)) (v := ?_) (a' := ?_) #[true, true, true, true, false, false, false, false, false, false, false, false] rfl rfl (by kernel_rfl) (fun _ _ _ h => h) (Or.inl ⟨by rfl, ?_⟩) ?_ ?_
      rotate_left
      · intro w'
        go_simp
        with_reducible rfl
      rotate_left
      · simp only [Act.put, List.setIfInBounds_toArray, List.set_cons_zero, List.set_cons_succ, i64_w, i32_w]
        rfl
      refine take_ (i := 4) (N := (some 18)) (v := ?_) (a' := ?_) #[true, true, true, true, true, false, false, false, false, false, false, false] rfl rfl (by kernel_rfl) (fun _ _ _ h => h) (Or.inl ⟨by rfl, ?_⟩) hHeld ?_ ?_
      rotate_left
      · rintro w' ⟨s0, s1⟩
        go_simp
        with_reducible rfl
      rotate_left
      · simp only [Act.put, List.setIfInBounds_toArray, List.set_cons_zero, List.set_cons_succ, i64_w, i32_w]
        rfl
      refine pure_ (i := 5) (N := (some 19)) (v := ?_) (a' := ?_) #[true, true, true, true, true, true, false, false, false, false, false, false] rfl rfl (by kernel_rfl) (fun _ _ _ h => h) (Or.inl ⟨by rfl, ?_⟩) ?_ ?_
      rotate_left
      · intro w'
        go_simp
        with_reducible rfl
      rotate_left
      · simp only [Act.put, List.setIfInBounds_toArray, List.set_cons_zero, List.set_cons_succ, i64_w, i32_w]
        rfl
      refine take_ (i := 6) (N := (some 20)) (v := ?_) (a' := ?_) #[true, true, true, true, true, true, true, false, false, false, false, false] rfl rfl (by kernel_rfl) (fun _ _ _ h => h) (Or.inl ⟨by rfl, ?_⟩) hHeld ?_ ?_
      rotate_left
      · rintro w' ⟨s0, s1⟩
        go_simp
        with_reducible rfl
      rotate_left
      · simp only [Act.put, List.setIfInBounds_toArray, List.set_cons_zero, List.set_cons_succ, i64_w, i32_w]
        rfl
      refine pure_ (i := 7) (N := (some 21)) (v := ?_) (a' := ?_) #[true, true, true, true, true, true, true, true, false, false, false, false] rfl rfl (by kernel_rfl) (fun _ _ _ h => h) (Or.inl ⟨by rfl, ?_⟩) ?_ ?_
      rotate_left
      · intro w'
        go_simp
        with_reducible rfl
      rotate_left
      · simp only [Act.put, List.setIfInBounds_toArray, List.set_cons_zero, List.set_cons_succ, i64_w, i32_w]
        rfl
      refine pure_ (i := 8) (N := (some 22)) (v := ?_) (a' := ?_) #[true, true, true, true, true, true, true, true, true, false, false, false] rfl rfl (by kernel_rfl) (fun _ _ _ h => h) (Or.inl ⟨by rfl, ?_⟩) ?_ ?_
      rotate_left
      · intro w'
        go_simp
        with_reducible rfl
      rotate_left
      · simp only [Act.put, List.setIfInBounds_toArray, List.set_cons_zero, List.set_cons_succ, i64_w, i32_w]
        rfl
      refine last_ (i := 9) (N := (some 23)) #[true, true, true, true, true, true, true, true, true, true, false, false] rfl rfl (by kernel_rfl) (by decide) (fun K hK => ?_)
      refine value_ (w1 := ?_) (v := ?_) (by rfl) rfl ?_ ?_
      rotate_left 2
      · go_simp
        constructor
        · rfl
        · rfl
      refine hK.out _ _ ?_
      clear hK K
      refine norm_ (a' := ?_) ?_ ?_
      rotate_left
      · show Act.put _ (some 23) _ = _
        simp only [Act.put, List.setIfInBounds_toArray, List.set_cons_zero, List.set_cons_succ, i64_w, i32_w]
        rfl
      refine last_ (i := 10) (N := (some 24)) #[true, true, true, true, true, true, true, true, true, true, true, false] rfl rfl (by kernel_rfl) (by decide) (fun K hK => ?_)
      refine step_append_cells (w0 := w) w.heap.size (by rfl) (.tmp 14) (.tmp 23) 28 3 (.int .i64 0) 1 8 rfl Try.underlying28 info_int rfl (by decide) (by decide) (.slice (some ax) (j + 1) yx) (j + 1) (nums .i64 (cutL L j)) [.int .i64 z] rfl (by show Value.slice (some ⟨wr.heap.size + 1, 0, none⟩) 1 1 = _; simp) rfl (by simp [Value.oneCell']) (hO.to (b6.trans (Bw.drawn ⟨⟨1, rfl⟩⟩))).out (hB.trans (b6.trans (Bw.drawn ⟨⟨1, rfl⟩⟩))).out (hB.trans (b6.trans (Bw.drawn ⟨⟨1, rfl⟩⟩))).size (by have := HN.out; omega) ?_
      intro v1 w9 hown1 hB1 hg1 _
      refine hK.out _ _ ?_
      clear hK K
      refine norm_ (a' := ?_) ?_ ?_
      rotate_left
      · show Act.put _ (some 24) _ = _
        simp only [Act.put, List.setIfInBounds_toArray, List.set_cons_zero, List.set_cons_succ, i64_w, i32_w]
        rfl
      have hO9 : OI w9 w.heap.size v1 (j + 1 + 1) (cutL L (j + 1)) := by rw [cutL_snoc, HZ.out]; exact ⟨by rw [nums_append]; exact hown1⟩
      have hB9 : Bw w w9 := ⟨hB1⟩
      refine last_ (i := 11) (N := (some 3)) #[true, true, true, true, true, true, true, true, true, true, true, true] rfl rfl (by kernel_rfl) (by decide) (fun K hK => ?_)
      refine value_ (w1 := ?_) (v := ?_) (by rfl) rfl ?_ ?_
      rotate_left 2
      · go_simp
        constructor
        · rfl
        · rfl
      refine hK.out _ _ ?_
      clear hK K
      refine norm_ (a' := ?_) ?_ ?_
      rotate_left
      · show Act.put _ (some 3) _ = _
        simp only [Act.put, List.setIfInBounds_toArray, List.set_cons_zero, List.set_cons_succ, i64_w, i32_w]
        rfl
      refine done_ (by kernel_rfl) ?_
      go_wp2
      go_roundw
      case rel => exact ⟨j + 1, by omega, by go_num, hO9, hB9⟩
      case measure => simp [intOf]; omega
    · obtain rfl : j = n := by omega
      have t1 : decide ((j : Int) < (j : Int)) = false := decide_eq_false (by omega)
      have HO := hid hO
      clear hO
      go_wp2
      go_ret
      exact ⟨_, rfl, HO.out, hB⟩
end Go.Proofs.Ytaemkneppphkmaa.U
set_option linter.unusedVariables false
set_option linter.unusedSimpArgs false
namespace Go.Proofs.Ytaemkneppphkmaa.U
open Go.RowKit Go.Lib Go.Proofs.YtaemkneppphkmaaW.PrintWords

def bestOk (L : List Vf) : Bool := joinOk L && decide (L.length ≤ 16)
noncomputable def bestL (L : List Vf) : List Int := if bestOk L = true then (partL (wts (joinS L).lv) (L.length : Nat)).1 else []
theorem joinS_mesh {L : List Vf} (h : joinOk L = true) : meshOk (joinS L).ro (joinS L).lv = true := by
  rw [joinS, if_pos h]
  simp only [joinOk, staOk, isBal, Bool.and_eq_true] at h
  exact h.2.1.1
theorem OI.less' {w : World} {base base' n : Nat} {v : Value} {l : List Int} (h : OI w base v n l) (hb : base' ≤ base) : OI w base' v n l := ⟨own_less h.out hb⟩
set_option maxHeartbeats 8000000 in
set_option maxRecDepth 100000 in
theorem impl_BestCuts (A : Option Addr) (n c : Nat) (L : List Vf) (w : World) (r : VwR w A n L) (hn : n + szTo L n ≤ 1048576) :
    Calls Try.prog 25 #[.slice A n c] w fun e w' => ∃ v, e = .returned (.tuple #[v, .bool (bestOk L)]) ∧ OI w' w.heap.size v (bestL L).length (bestL L) ∧ Bw w w' := by
  have hlen := r.len
  have hmax := r.max
  obtain ⟨s, hs⟩ : ∃ s, joinS L = s := ⟨_, rfl⟩
  obtain ⟨q, hq⟩ : ∃ q, joinOk L = q := ⟨_, rfl⟩
  cases q with
  | false =>
    have hb : bestOk L = false := by simp [bestOk, hq]
    have HB_ := hid hb
    have HL_ : Hid (bestL L = []) := hid (by rw [bestL, if_neg (by rw [hb]; decide)])
    have HQ := hid hq
    clear hb hq
    go_enter Try.func25, Try.ntmps25
    go_wp2_with fail
    refine (impl_JoinViews' A n c L s false _ r hn hs HQ.out).mono ?_
    rintro e_ w1 ⟨z1, A0, a0, A1, a1, A2, a2, A3, a3, hz1, rfl, hw, b1⟩
    have b2 := b1.trans (Bw.box1 w1 (.cells #[.int .i64 s.ro, .slice A0 s.lv.length a0, .slice A1 s.ms.length a1, .slice A2 s.ts.length a2, .slice A3 s.bd.length a3] 36))
    clear b1 hw
    go_wp2
    go_ret2
    exact ⟨_, by rw [HB_.out]; rfl, by rw [HL_.out]; exact ⟨(FO.nil _ _ 3 1).out⟩, b2⟩
  | true =>
    by_cases h16 : n ≤ 16
    case neg =>
      have hb : bestOk L = false := by simp [bestOk, hq, hlen]; omega
      have HB_ := hid hb
      have HL_ : Hid (bestL L = []) := hid (by rw [bestL, if_neg (by rw [hb]; decide)])
      have HQ := hid hq
      have t1 : decide ((16 : Int) < (n : Int)) = true := decide_eq_true (by omega)
      clear hb hq h16 hlen
      go_enter Try.func25, Try.ntmps25
      go_wp2_with fail
      refine (impl_JoinViews' A n c L s true _ r hn hs HQ.out).mono ?_
      rintro e_ w1 ⟨z1, A0, a0, A1, a1, A2, a2, A3, a3, hz1, rfl, hw, b1⟩
      have b2 := b1.trans (Bw.box1 w1 (.cells #[.int .i64 s.ro, .slice A0 s.lv.length a0, .slice A1 s.ms.length a1, .slice A2 s.ts.length a2, .slice A3 s.bd.length a3] 36))
      clear b1 hw
      go_wp2
      go_ret2
      exact ⟨_, by rw [HB_.out]; rfl, by rw [HL_.out]; exact ⟨(FO.nil _ _ 3 1).out⟩, b2⟩
    have hb : bestOk L = true := by simp [bestOk, hq, hlen]; omega
    have HB_ := hid hb
    have HL_ : Hid (bestL L = (partL (wts s.lv) n).1) := hid (by rw [bestL, if_pos hb, hs, hlen])
    have HQ := hid hq
    have HM : Hid (meshOk s.ro s.lv = true) := hid (by rw [← hs]; exact joinS_mesh hq)
    have t1 : decide ((16 : Int) < (n : Int)) = false := decide_eq_false (by omega)
    clear hb hq h16 hlen
    go_enter Try.func25, Try.ntmps25
    go_wp2_with fail
    refine (impl_JoinViews' A n c L s true _ r hn hs HQ.out).mono ?_
    rintro e_ w1 ⟨z1, A0, a0, A1, a1, A2, a2, A3, a3, hz1, rfl, hw, hB⟩
    have g0 := box_cell (Bw.refl (w1.alloc (.cells #[.int .i64 s.ro, .slice A0 s.lv.length a0, .slice A1 s.ms.length a1, .slice A2 s.ts.length a2, .slice A3 s.bd.length a3] 36))) 0
    have g1 := box_cell (Bw.refl (w1.alloc (.cells #[.int .i64 s.ro, .slice A0 s.lv.length a0, .slice A1 s.ms.length a1, .slice A2 s.ts.length a2, .slice A3 s.bd.length a3] 36))) 1
    have g2 := box_cell (Bw.refl (w1.alloc (.cells #[.int .i64 s.ro, .slice A0 s.lv.length a0, .slice A1 s.ms.length a1, .slice A2 s.ts.length a2, .slice A3 s.bd.length a3] 36))) 2
    have g3 := box_cell (Bw.refl (w1.alloc (.cells #[.int .i64 s.ro, .slice A0 s.lv.length a0, .slice A1 s.ms.length a1, .slice A2 s.ts.length a2, .slice A3 s.bd.length a3] 36))) 3
    have g4 := box_cell (Bw.refl (w1.alloc (.cells #[.int .i64 s.ro, .slice A0 s.lv.length a0, .slice A1 s.ms.length a1, .slice A2 s.ts.length a2, .slice A3 s.bd.length a3] 36))) 4
    simp only [List.getElem?_toArray, List.getElem?_cons_zero, List.getElem?_cons_succ] at g0 g1 g2 g3 g4
    have b1 := Bw.box1 w1 (.cells #[.int .i64 s.ro, .slice A0 s.lv.length a0, .slice A1 s.ms.length a1, .slice A2 s.ts.length a2, .slice A3 s.bd.length a3] 36)
    replace hw := hw.to b1
    replace hB := hB.trans b1
    clear b1
    obtain ⟨A0', a0', A1', a1', A2', a2', A3', a3', e0, rI, _⟩ := hw.r
    obtain ⟨rfl, rfl⟩ : A0 = A0' ∧ a0 = a0' := by simp at e0; exact ⟨e0.1.1, e0.1.2⟩
    clear e0
    go_wp2_with fail
    generalize (w1.alloc (.cells #[.int .i64 s.ro, .slice A0 s.lv.length a0, .slice A1 s.ms.length a1, .slice A2 s.ts.length a2, .slice A3 s.bd.length a3] 36)) = w2 at *
    refine (impl_WeightsOf s.ro A0 s.lv.length a0 s.lv _ rI HM.out).mono ?_
    rintro e_ w3 ⟨v3, rfl, hO, b1⟩
    replace g0 := pw_cell_below b1.out g0
    replace g1 := pw_cell_below b1.out g1
    replace g2 := pw_cell_below b1.out g2
    replace g3 := pw_cell_below b1.out g3
    replace g4 := pw_cell_below b1.out g4
    replace hw := hw.to b1
    replace rI := rI.to b1
    replace hB := hB.trans b1
    obtain ⟨XW, yW, rfl, hcap, fW⟩ := FO.reads (t := 3) (k := 1) ⟨hO.out⟩
    clear b1
    have rW := fW.ri
    go_wp2_with fail
    refine (impl_PartitionOf XW _ yW (wts s.lv) n _ rW hcap).mono ?_
    rintro e_ w4 ⟨v4, rfl, hP, b1⟩
    replace hO := hP.less' hB.size
    replace hB := hB.trans b1
    clear b1 hP
    have HO := hid hO
    clear hO
    go_wp2
    go_ret2
    exact ⟨_, by rw [HB_.out]; rfl, by rw [HL_.out]; exact HO.out, hB⟩
end Go.Proofs.Ytaemkneppphkmaa.U
set_option linter.unusedVariables false
set_option linter.unusedSimpArgs false
namespace Go.Proofs.Ytaemkneppphkmaa.U
open Go.RowKit Go.Lib Go.Proofs.YtaemkneppphkmaaW.PrintWords

theorem Rw.rdI {w : World} {lo hi n c : Nat} {A : Option Addr} {F : List Int} (h : Rw w lo hi 3 1 (.slice A n c) n F) : RI w A n F := (FO.fr h.o).ri
theorem bestL_len (L : List Vf) : (bestL L).length ≤ 1048576 := by
  rw [bestL]
  split
  · exact partL_len _ _
  · simp
theorem impl_BestCuts' (A : Option Addr) (n c : Nat) (L : List Vf) (F : List Int) (m : Nat) (q : Bool) (w : World) (r : VwR w A n L) (hn : n + szTo L n ≤ 1048576) (hF : bestL L = F) (hm : F.length = m) (hq : bestOk L = q) :
    Calls Try.prog 25 #[.slice A n c] w fun e w' => ∃ (z : Nat) (X : Option Addr) (y : Nat), z = w.heap.size ∧ e = .returned (.tuple #[.slice X m y, .bool q]) ∧ Rw w' z w'.heap.size 3 1 (.slice X m y) m F ∧ Bw w w' := by
  refine (impl_BestCuts A n c L w r hn).mono ?_
  rintro e w' ⟨v, rfl, hO, b⟩
  rw [hF, hm] at hO
  obtain ⟨X, y, rfl, _, _⟩ := FO.reads (t := 3) (k := 1) ⟨hO.out⟩
  rw [hq]
  exact ⟨_, _, _, rfl, rfl, hO.rw, b⟩
end Go.Proofs.Ytaemkneppphkmaa.U
set_option linter.unusedVariables false
set_option linter.unusedSimpArgs false
namespace Go.Proofs.Ytaemkneppphkmaa.U
open Go.RowKit Go.Lib Go.Proofs.YtaemkneppphkmaaW.PrintWords

noncomputable def imbal (L : List Vf) : Int := if bestOk L = true then maxPart (wts (joinS L).lv) (cutL L L.length) - maxPart (wts (joinS L).lv) (bestL L) else -1
theorem maxPart_range (l cuts : List Int) : -1 ≤ maxPart l cuts ∧ maxPart l cuts ≤ 1000000000 := by
  rw [maxPart]
  split
  · rename_i h
    have := mostTo_range (cuts := cuts) h.2 (cuts.length - 1)
    omega
  · omega
set_option maxHeartbeats 8000000 in
set_option maxRecDepth 100000 in
theorem impl_Imbalance (A : Option Addr) (n c : Nat) (L : List Vf) (w : World) (r : VwR w A n L) (hn : n + szTo L n ≤ 1048576) :
    Calls Try.prog 27 #[.slice A n c] w fun e w' => e = .returned (.int .i64 (imbal L)) ∧ Bw w w' := by
  have hlen := r.len
  have hmax := r.max
  obtain ⟨s, hs⟩ : ∃ s, joinS L = s := ⟨_, rfl⟩
  obtain ⟨q, hq⟩ : ∃ q, bestOk L = q := ⟨_, rfl⟩
  obtain ⟨F, hF⟩ : ∃ F, bestL L = F := ⟨_, rfl⟩
  obtain ⟨m, hm⟩ : ∃ m, F.length = m := ⟨_, rfl⟩
  have HF := hid hF
  have HM := hid hm
  have hB := Bw.refl w
  cases q with
  | false =>
    have HI : Hid (imbal L = -1) := hid (by rw [imbal, if_neg (by rw [hq]; decide)])
    have HQ := hid hq
    clear hq hm hF hs
    go_enter Try.func27, Try.ntmps27
    go_wp2_with fail
    refine (impl_BestCuts' A n c L F m false _ r hn HF.out HM.out HQ.out).mono ?_
    rintro e_ w1 ⟨z1, XF, yF, hz1, rfl, hf, b1⟩
    go_wp2
    go_ret
    exact ⟨ret_int HI.out.symm, b1⟩
  | true =>
    have hj : joinOk L = true := by simp only [bestOk, Bool.and_eq_true] at hq; exact hq.1
    have HI : Hid (imbal L = maxPart (wts s.lv) (cutL L n) - maxPart (wts s.lv) F) := hid (by rw [imbal, if_pos hq, hs, hF, hlen])
    have HQ := hid hq
    have HS := hid hs
    have HJ := hid hj
    have HK : Hid (meshOk s.ro s.lv = true) := hid (by rw [← hs]; exact joinS_mesh hj)
    clear hq hm hF hs hj
    go_enter Try.func27, Try.ntmps27
    go_wp2_with fail
    refine (impl_BestCuts' A n c L F m true _ r hn HF.out HM.out HQ.out).mono ?_
    rintro e_ w1 ⟨z1, XF, yF, hz1, rfl, hf, b1⟩
    replace hB := hB.trans b1
    clear b1
    go_wp2_with fail
    refine (impl_JoinViews' A n c L s true _ (r.to hB) hn HS.out HJ.out).mono ?_
    rintro e_ w2 ⟨z2, A0, a0, A1, a1, A2, a2, A3, a3, hz2, rfl, hw, b1⟩
    replace hf := hf.to b1
    replace hB := hB.trans b1
    clear b1
    have g0 := box_cell (Bw.refl (w2.alloc (.cells #[.int .i64 s.ro, .slice A0 s.lv.length a0, .slice A1 s.ms.length a1, .slice A2 s.ts.length a2, .slice A3 s.bd.length a3] 36))) 0
    have g1 := box_cell (Bw.refl (w2.alloc (.cells #[.int .i64 s.ro, .slice A0 s.lv.length a0, .slice A1 s.ms.length a1, .slice A2 s.ts.length a2, .slice A3 s.bd.length a3] 36))) 1
    have g2 := box_cell (Bw.refl (w2.alloc (.cells #[.int .i64 s.ro, .slice A0 s.lv.length a0, .slice A1 s.ms.length a1, .slice A2 s.ts.length a2, .slice A3 s.bd.length a3] 36))) 2
    have g3 := box_cell (Bw.refl (w2.alloc (.cells #[.int .i64 s.ro, .slice A0 s.lv.length a0, .slice A1 s.ms.length a1, .slice A2 s.ts.length a2, .slice A3 s.bd.length a3] 36))) 3
    have g4 := box_cell (Bw.refl (w2.alloc (.cells #[.int .i64 s.ro, .slice A0 s.lv.length a0, .slice A1 s.ms.length a1, .slice A2 s.ts.length a2, .slice A3 s.bd.length a3] 36))) 4
    simp only [List.getElem?_toArray, List.getElem?_cons_zero, List.getElem?_cons_succ] at g0 g1 g2 g3 g4
    have b1 := Bw.box1 w2 (.cells #[.int .i64 s.ro, .slice A0 s.lv.length a0, .slice A1 s.ms.length a1, .slice A2 s.ts.length a2, .slice A3 s.bd.length a3] 36)
    replace hf := hf.to b1
    replace hw := hw.to b1
    replace hB := hB.trans b1
    clear b1
    obtain ⟨A0', a0', A1', a1', A2', a2', A3', a3', e0, rI, _⟩ := hw.r
    obtain ⟨rfl, rfl⟩ : A0 = A0' ∧ a0 = a0' := by simp at e0; exact ⟨e0.1.1, e0.1.2⟩
    clear e0
    go_wp2_with fail
    generalize (w2.alloc (.cells #[.int .i64 s.ro, .slice A0 s.lv.length a0, .slice A1 s.ms.length a1, .slice A2 s.ts.length a2, .slice A3 s.bd.length a3] 36)) = w3 at *
    refine (impl_WeightsOf s.ro A0 s.lv.length a0 s.lv _ rI HK.out).mono ?_
    rintro e_ w4 ⟨v4, rfl, hO, b1⟩
    replace g0 := pw_cell_below b1.out g0
    replace g1 := pw_cell_below b1.out g1
    replace g2 := pw_cell_below b1.out g2
    replace g3 := pw_cell_below b1.out g3
    replace g4 := pw_cell_below b1.out g4
    replace hf := hf.to b1
    replace hw := hw.to b1
    replace rI := rI.to b1
    replace hB := hB.trans b1
    obtain ⟨XW, yW, rfl, hcap, _⟩ := FO.reads (t := 3) (k := 1) ⟨hO.out⟩
    clear b1
    have rW := (FO.fr (t := 3) (k := 1) ⟨hO.out⟩).ri
    clear hO
    go_wp2_with fail
    refine (impl_cutsOf A n c L _ (r.to hB) hn).mono ?_
    rintro e_ w5 ⟨v5, rfl, hO, b1⟩
    replace g0 := pw_cell_below b1.out g0
    replace g1 := pw_cell_below b1.out g1
    replace g2 := pw_cell_below b1.out g2
    replace g3 := pw_cell_below b1.out g3
    replace g4 := pw_cell_below b1.out g4
    replace hf := hf.to b1
    replace hw := hw.to b1
    replace rI := rI.to b1
    replace rW := rW.to b1
    replace hB := hB.trans b1
    obtain ⟨XC, yC, rfl, _, _⟩ := FO.reads (t := 3) (k := 1) ⟨hO.out⟩
    clear b1
    have rC := (FO.fr (t := 3) (k := 1) ⟨hO.out⟩).ri
    clear hO
    go_wp2_with fail
    refine (impl_MaxPart XW _ yW (wts s.lv) XC (n + 1) yC (cutL L n) _ rW rC hcap).mono ?_
    rintro e_ w6 ⟨rfl, d1⟩
    have b1 := Bw.drawn d1
    replace g0 := pw_cell_below b1.out g0
    replace g1 := pw_cell_below b1.out g1
    replace g2 := pw_cell_below b1.out g2
    replace g3 := pw_cell_below b1.out g3
    replace g4 := pw_cell_below b1.out g4
    replace hf := hf.to b1
    replace hw := hw.to b1
    replace rI := rI.to b1
    replace rW := rW.to b1
    replace rC := rC.to b1
    replace hB := hB.trans b1
    clear b1 d1
    go_wp2_with fail
    refine (impl_MaxPart XW _ yW (wts s.lv) XF m yF F _ rW hf.rdI hcap).mono ?_
    rintro e_ w7 ⟨rfl, d1⟩
    have b1 := Bw.drawn d1
    replace hB := hB.trans b1
    have hx := maxPart_range (wts s.lv) (cutL L n)
    have hy := maxPart_range (wts s.lv) F
    obtain ⟨x, ex⟩ : ∃ x, maxPart (wts s.lv) (cutL L n) = x := ⟨_, rfl⟩
    obtain ⟨y, ey⟩ : ∃ y, maxPart (wts s.lv) F = y := ⟨_, rfl⟩
    rw [ex] at hx HI
    rw [ey] at hy HI
    rw [ex, ey]
    have e1 : wrap64 (x - y) = x - y := w64 (by omega) (by omega)
    have e2 : IntKind.i64.wrap (x - y) = x - y := i64w (by omega) (by omega)
    clear hx hy ex ey
    go_wp2
    go_ret
    exact ⟨ret_int HI.out.symm, hB⟩
end Go.Proofs.Ytaemkneppphkmaa.U
