
/- A tree of cells, a mesh, drawn. -/
import Derived.Test.YtaemkneppphkmaaDt
set_option linter.unusedVariables false
set_option linter.unusedSimpArgs false
namespace Go.Proofs.Ytaemkneppphkmaa.U
open Go.RowKit Go.Lib Go.Proofs.YtaemkneppphkmaaW.PrintWords

open Go.Proofs.YtaemkneppphkmaaW.PrintLast Go.Proofs.YtaemkneppphkmaaW.PrintMore
set_option maxHeartbeats 8000000 in
set_option maxRecDepth 100000 in
theorem l04Root (w0 : World) (g M : Nat) (ro : Int) (hM : w0.heap.size ≤ M) (hMg : M ≠ g) : ∀ (d : Nat) (x : Ce) (ch : Int) (w : World) (v : Value) (l : List Ce), ceOk x = true → x.l + d = 4 → 0 ≤ ch → ch + d ≤ 100 → l.length + 32 * (d + 1) ≤ 1000000 → Cur w0 w g → w.heap[M]? = some (.cells #[.int .i64 ro, v] 26 (0, 0)) → FO w (g + 1) 32 3 v l.length (idF l) →
    Calls Try.prog 56 #[.pointer (some ⟨g, 0, none⟩), .agg #[.int .i64 x.r, .int .i64 x.l, .int .i64 x.i], .int .i64 ch, .pointer (some ⟨M, 1, none⟩)] w fun e w' => ∃ u v' l', e = .returned u ∧ Grew w0 w w' g M ro v v' l l' ∧ meshEnd l' (ceAt x) = some (ceEnd x) := by
  intro d
  induction d with
  | zero =>
    intro x ch w v l hx hd h0 h1 hl hC hk ho
    obtain ⟨r, lv, ix⟩ := x
    obtain rfl : lv = 4 := by simp only at hd; omega
    obtain ⟨X, y, rfl, hy, _⟩ := ho.reads
    have g0 := box_cell (Bw.refl (w.alloc (.cells #[.int .i64 r, .int .i64 4, .int .i64 ix] 32))) 0
    have g1 := box_cell (Bw.refl (w.alloc (.cells #[.int .i64 r, .int .i64 4, .int .i64 ix] 32))) 1
    have g2 := box_cell (Bw.refl (w.alloc (.cells #[.int .i64 r, .int .i64 4, .int .i64 ix] 32))) 2
    simp only [List.getElem?_toArray, List.getElem?_cons_zero, List.getElem?_cons_succ] at g0 g1 g2
    have b0 := Bw.box1 w (.cells #[.int .i64 r, .int .i64 4, .int .i64 ix] 32)
    have HX := hid hx
    have HC := hid (hC.bw b0)
    have HK := hid ((b0.out.block _ (blk_lt hk)).trans hk)
    have HO := hid (ho.to b0)
    have pM : (w.alloc (.cells #[.int .i64 r, .int .i64 4, .int .i64 ix] 32)).cell? ⟨M, 1, none⟩ = some (.slice X l.length y) := (blk_cell HK.out 1).trans rfl
    have HB0 := hid b0
    have HV := hid (fun q hq => own_lt ho.out q hq)
    clear hx hC hk ho b0 hd
    go_enter Try.func56, Try.ntmps56
    go_upto_region 1 with fail
    generalize hW1 : (w.alloc (.cells #[.int .i64 r, .int .i64 4, .int .i64 ix] 32)) = W1 at *
    go_wp2
    refine start_ (n := 9) (S := fun w' => w'.cell? ⟨w.heap.size, 0, none⟩ = some (.int .i64 r) ∧ w'.cell? ⟨w.heap.size, 1, none⟩ = some (.int .i64 4) ∧ w'.cell? ⟨w.heap.size, 2, none⟩ = some (.int .i64 ix) ∧ w'.cell? ⟨M, 1, none⟩ = some (.slice X l.length y)) (ds := [6, 8]) #[false, false, false, false, false, false, false, false, false] (by kernel_rfl) rfl rfl ⟨g0, g1, g2, pM⟩ (fun hHeld => ?_)
    refine pure_ (i := 0) (N := (some 20)) (v := ?_) (a' := ?_) #[true, false, false, false, false, false, false, false, false] rfl rfl (by kernel_rfl) (fun _ _ _ h => h) (Or.inl ⟨by rfl, ?_⟩) ?_ ?_
    rotate_left
    · intro w'
      go_simp
      with_reducible rfl
    rotate_left
    · simp only [Act.put, List.setIfInBounds_toArray, List.set_cons_zero, List.set_cons_succ, i64_w, i32_w]
      rfl
    refine pure_ (i := 1) (N := (some 21)) (v := ?_) (a' := ?_) #[true, true, false, false, false, false, false, false, false] rfl rfl (by kernel_rfl) (fun _ _ _ h => h) (Or.inl ⟨by rfl, ?_⟩) ?_ ?_
    rotate_left
    · intro w'
      go_simp
      with_reducible rfl
    rotate_left
    · simp only [Act.put, List.setIfInBounds_toArray, List.set_cons_zero, List.set_cons_succ, i64_w, i32_w]
      rfl
    refine pure_ (i := 2) (N := (some 22)) (v := ?_) (a' := ?_) #[true, true, true, false, false, false, false, false, false] rfl rfl (by kernel_rfl) (fun _ _ _ h => h) (Or.inl ⟨by rfl, ?_⟩) ?_ ?_
    rotate_left
    · intro w'
      go_simp
      with_reducible rfl
    rotate_left
    · simp only [Act.put, List.setIfInBounds_toArray, List.set_cons_zero, List.set_cons_succ, i64_w, i32_w]
      rfl
    refine take_ (i := 3) (N := (some 23)) (v := ?_) (a' := ?_) #[true, true, true, true, false, false, false, false, false] rfl rfl (by kernel_rfl) (fun _ _ _ h => h) (Or.inl ⟨by rfl, ?_⟩) hHeld ?_ ?_
    rotate_left
    · rintro w' ⟨s0, s1, s2, s3⟩
      go_simp
      with_reducible rfl
    rotate_left
    · simp only [Act.put, List.setIfInBounds_toArray, List.set_cons_zero, List.set_cons_succ, i64_w, i32_w]
      rfl
    refine take_ (i := 4) (N := (some 24)) (v := ?_) (a' := ?_) #[true, true, true, true, true, false, false, false, false] rfl rfl (by kernel_rfl) (fun _ _ _ h => h) (Or.inl ⟨by rfl, ?_⟩) hHeld ?_ ?_
    rotate_left
    · rintro w' ⟨s0, s1, s2, s3⟩
      go_simp
      with_reducible rfl
    rotate_left
    · simp only [Act.put, List.setIfInBounds_toArray, List.set_cons_zero, List.set_cons_succ, i64_w, i32_w]
      rfl
    clear hHeld
    have bD := Bw.drawn (a := W1) ⟨⟨1, rfl⟩⟩
    have hC9 := HC.out.bw bD
    have hk9 := (bD.out.block _ (blk_lt HK.out)).trans HK.out
    have ho9 := HO.out.to bD
    have bA := Bw.box1 (W1.drewN 1) (.cells #[.int .i64 r, .int .i64 4, .int .i64 ix] 32)
    have bDA := bD.trans bA
    refine one_ (i := 5) (N := (some 25)) #[true, true, true, true, true, true, false, false, false] rfl rfl (by kernel_rfl) (by decide) (fun K hK => ?_)
    refine value_ (w1 := ?_) (v := ?_) (by rfl) rfl ?_ ?_
    rotate_left 2
    · go_simp
      constructor
      · rfl
      · rfl
    refine hK.out _ _ ⟨pw_cell_below bDA.out g0, pw_cell_below bDA.out g1, pw_cell_below bDA.out g2, pw_cell_below bDA.out pM⟩ (fun _ => ?_)
    rename_i hJ_
    clear hJ_
    clear bA bDA
    clear hK K
    refine norm_ (a' := ?_) ?_ ?_
    rotate_left
    · show Act.put _ (some 25) _ = _
      simp only [Act.put, List.setIfInBounds_toArray, List.set_cons_zero, List.set_cons_succ, i64_w, i32_w]
      rfl
    refine last_ (i := 6) (N := (some 26)) #[true, true, true, true, true, true, true, false, false] rfl rfl (by kernel_rfl) (by decide) (fun K hK => ?_)
    refine step_append_cells (w0 := W1.drewN 1) (g + 1) (by rfl) (.tmp 23) (.tmp 25) 24 32 (.agg #[.int .i64 0, .int .i64 0, .int .i64 0]) 3 24 rfl Try.underlying24 info_id rfl (by decide) (by decide) (.slice X l.length y) l.length (nums .i64 (idF l)) [.int .i64 r, .int .i64 4, .int .i64 ix] rfl rfl rfl (by intro u hu; simp at hu; rcases hu with rfl | rfl | rfl <;> rfl) ho9.out (Below.refl _ _) (by have := hC9.at_lt; omega) (by omega) ?_
    intro v1 wd od hBd hgd had
    have hkD := blk_grown hk9 hgd (own_ne ho9.out hk9 (by decide))
    have hGR := Grew.app (x := ⟨r, 4, ix⟩) hC9 hk9 ho9 od hgd had hM hMg
    obtain ⟨X1, y1, hv1, _, _⟩ := hGR.row.reads
    rw [show (l ++ [(⟨r, 4, ix⟩ : Ce)]).length = l.length + 1 by simp] at hv1
    subst hv1
    refine hK.out _ _ ?_
    clear hK K
    refine norm_ (a' := ?_) ?_ ?_
    rotate_left
    · show Act.put _ (some 26) _ = _
      simp only [Act.put, List.setIfInBounds_toArray, List.set_cons_zero, List.set_cons_succ, i64_w, i32_w]
      rfl
    have HGR := hid (hGR.before bD (fun q hq => own_lt HO.out.out q hq))
    clear hGR hgd had od hBd
    refine pure_ (i := 7) (N := (some 27)) (v := ?_) (a' := ?_) #[true, true, true, true, true, true, true, true, false] rfl rfl (by kernel_rfl) (fun _ _ _ h => h) (Or.inl ⟨by rfl, ?_⟩) ?_ ?_
    rotate_left
    · intro w'
      go_simp
      with_reducible rfl
    rotate_left
    · simp only [Act.put, List.setIfInBounds_toArray, List.set_cons_zero, List.set_cons_succ, i64_w, i32_w]
      rfl
    refine last_ (i := 8) (N := none) #[true, true, true, true, true, true, true, true, true] rfl rfl (by kernel_rfl) (by decide) (fun K hK => ?_)
    have hs1 := (blk_cell hkD 1).trans (show _ = some (Value.slice X l.length y) from rfl)
    have hf1 := blk_frozen hkD 1
    clear hkD hk9 ho9 hC9 bD
    refine skip_ (w1 := ?_) (by rfl) rfl ?_ ?_
    rotate_left
    · go_simp
      rfl
    refine hK.out _ _ ?_
    clear hK K
    refine done_ (by kernel_rfl) ?_
    clear hs1 hf1
    go_wp2
    exact bodyPost_ret (v := .tuple #[]) (by simp [results, Try.results56, go_sem]) rfl ⟨_, _, _, rfl, HGR.out.before HB0.out HV.out, meshEnd_one HX.out⟩
  | succ d ih =>
    intro x ch w v l hx hd h0 h1 hl hC hk ho
    obtain ⟨r, lv, ix⟩ := x
    have hlv : lv < 4 := by simp only at hd; omega
    have t0 : (lv == 4) = false := by simp; omega
    obtain ⟨X, y, rfl, hy, _⟩ := ho.reads
    have g0 := box_cell (Bw.refl (w.alloc (.cells #[.int .i64 r, .int .i64 lv, .int .i64 ix] 32))) 0
    have g1 := box_cell (Bw.refl (w.alloc (.cells #[.int .i64 r, .int .i64 lv, .int .i64 ix] 32))) 1
    have g2 := box_cell (Bw.refl (w.alloc (.cells #[.int .i64 r, .int .i64 lv, .int .i64 ix] 32))) 2
    simp only [List.getElem?_toArray, List.getElem?_cons_zero, List.getElem?_cons_succ] at g0 g1 g2
    have b0 := Bw.box1 w (.cells #[.int .i64 r, .int .i64 lv, .int .i64 ix] 32)
    have HX := hid hx
    have HC1 := hid (hC.bw b0)
    have HK1 := hid ((b0.out.block _ (blk_lt hk)).trans hk)
    have HO1 := hid (ho.to b0)
    have HXB := hid (show (w.alloc (.cells #[.int .i64 r, .int .i64 lv, .int .i64 ix] 32)).heap[w.heap.size]? = some (.cells #[.int .i64 r, .int .i64 lv, .int .i64 ix] 32 (0, 0)) from heap_alloc_new w _)
    have HD := hid (show lv + ((d : Int) + 1) = 4 by simp only at hd; omega)
    have HXN := hid (show w.heap.size ≠ g ∧ w.heap.size ≠ M ∧ (Value.slice X l.length y).ownBlock ≠ some w.heap.size from ⟨by have := hC.at_lt; omega, by have := blk_lt hk; omega, fun e => by have := own_lt ho.out _ e; omega⟩)
    have HB0 := hid b0
    have HV := hid (fun q hq => own_lt ho.out q hq)
    clear hC hk ho b0 hd
    go_enter Try.func56, Try.ntmps56
    go_wp2_with fail
    generalize hW1 : (w.alloc (.cells #[.int .i64 r, .int .i64 lv, .int .i64 ix] 32)) = W1 at *
    refine (l01Once w0 g ch _ HC1.out).mono ?_
    rintro e w2 ⟨⟨b, rfl⟩, hC2, hG2⟩
    have hGr := Grew.draw hC2 hG2 hMg HK1.out HO1.out
    have hXB2 := hGr.at HXB.out HXN.out.1 HXN.out.2.1 HXN.out.2.2
    replace g0 : w2.cell? ⟨w.heap.size, 0, none⟩ = some (.int .i64 r) := (blk_cell hXB2 0).trans rfl
    replace g1 : w2.cell? ⟨w.heap.size, 1, none⟩ = some (.int .i64 lv) := (blk_cell hXB2 1).trans rfl
    replace g2 : w2.cell? ⟨w.heap.size, 2, none⟩ = some (.int .i64 ix) := (blk_cell hXB2 2).trans rfl
    cases b with
    | false =>
      have HC := hid hGr.cur
      have HK := hid hGr.blk
      have HO := hid (show FO w2 (g + 1) 32 3 (.slice X l.length y) l.length (idF l) by have h := hGr.row; rwa [List.append_nil] at h)
      have pM : w2.cell? ⟨M, 1, none⟩ = some (.slice X l.length y) := (blk_cell HK.out 1).trans rfl
      have HGD := hid hGr
      clear hC2 hG2 hGr hXB2 hx
      go_wp2
      refine start_ (n := 9) (S := fun w' => w'.cell? ⟨w.heap.size, 0, none⟩ = some (.int .i64 r) ∧ w'.cell? ⟨w.heap.size, 1, none⟩ = some (.int .i64 lv) ∧ w'.cell? ⟨w.heap.size, 2, none⟩ = some (.int .i64 ix) ∧ w'.cell? ⟨M, 1, none⟩ = some (.slice X l.length y)) (ds := [6, 8]) #[false, false, false, false, false, false, false, false, false] (by kernel_rfl) rfl rfl ⟨g0, g1, g2, pM⟩ (fun hHeld => ?_)
      refine pure_ (i := 0) (N := (some 20)) (v := ?_) (a' := ?_) #[true, false, false, false, false, false, false, false, false] rfl rfl (by kernel_rfl) (fun _ _ _ h => h) (Or.inl ⟨by rfl, ?_⟩) ?_ ?_
      rotate_left
      · intro w'
        go_simp
        with_reducible rfl
      rotate_left
      · simp only [Act.put, List.setIfInBounds_toArray, List.set_cons_zero, List.set_cons_succ, i64_w, i32_w]
        rfl
      refine pure_ (i := 1) (N := (some 21)) (v := ?_) (a' := ?_) #[true, true, false, false, false, false, false, false, false] rfl rfl (by kernel_rfl) (fun _ _ _ h => h) (Or.inl ⟨by rfl, ?_⟩) ?_ ?_
      rotate_left
      · intro w'
        go_simp
        with_reducible rfl
      rotate_left
      · simp only [Act.put, List.setIfInBounds_toArray, List.set_cons_zero, List.set_cons_succ, i64_w, i32_w]
        rfl
      refine pure_ (i := 2) (N := (some 22)) (v := ?_) (a' := ?_) #[true, true, true, false, false, false, false, false, false] rfl rfl (by kernel_rfl) (fun _ _ _ h => h) (Or.inl ⟨by rfl, ?_⟩) ?_ ?_
      rotate_left
      · intro w'
        go_simp
        with_reducible rfl
      rotate_left
      · simp only [Act.put, List.setIfInBounds_toArray, List.set_cons_zero, List.set_cons_succ, i64_w, i32_w]
        rfl
      refine take_ (i := 3) (N := (some 23)) (v := ?_) (a' := ?_) #[true, true, true, true, false, false, false, false, false] rfl rfl (by kernel_rfl) (fun _ _ _ h => h) (Or.inl ⟨by rfl, ?_⟩) hHeld ?_ ?_
      rotate_left
      · rintro w' ⟨s0, s1, s2, s3⟩
        go_simp
        with_reducible rfl
      rotate_left
      · simp only [Act.put, List.setIfInBounds_toArray, List.set_cons_zero, List.set_cons_succ, i64_w, i32_w]
        rfl
      refine take_ (i := 4) (N := (some 24)) (v := ?_) (a' := ?_) #[true, true, true, true, true, false, false, false, false] rfl rfl (by kernel_rfl) (fun _ _ _ h => h) (Or.inl ⟨by rfl, ?_⟩) hHeld ?_ ?_
      rotate_left
      · rintro w' ⟨s0, s1, s2, s3⟩
        go_simp
        with_reducible rfl
      rotate_left
      · simp only [Act.put, List.setIfInBounds_toArray, List.set_cons_zero, List.set_cons_succ, i64_w, i32_w]
        rfl
      clear hHeld
      have bD := Bw.drawn (a := w2) ⟨⟨1, rfl⟩⟩
      have hC9 := HC.out.bw bD
      have hk9 := (bD.out.block _ (blk_lt HK.out)).trans HK.out
      have ho9 := HO.out.to bD
      have bA := Bw.box1 (w2.drewN 1) (.cells #[.int .i64 r, .int .i64 lv, .int .i64 ix] 32)
      have bDA := bD.trans bA
      refine one_ (i := 5) (N := (some 25)) #[true, true, true, true, true, true, false, false, false] rfl rfl (by kernel_rfl) (by decide) (fun K hK => ?_)
      refine value_ (w1 := ?_) (v := ?_) (by rfl) rfl ?_ ?_
      rotate_left 2
      · go_simp
        constructor
        · rfl
        · rfl
      refine hK.out _ _ ⟨pw_cell_below bDA.out g0, pw_cell_below bDA.out g1, pw_cell_below bDA.out g2, pw_cell_below bDA.out pM⟩ (fun _ => ?_)
      rename_i hJ_
      clear hJ_
      clear bA bDA
      clear hK K
      refine norm_ (a' := ?_) ?_ ?_
      rotate_left
      · show Act.put _ (some 25) _ = _
        simp only [Act.put, List.setIfInBounds_toArray, List.set_cons_zero, List.set_cons_succ, i64_w, i32_w]
        rfl
      refine last_ (i := 6) (N := (some 26)) #[true, true, true, true, true, true, true, false, false] rfl rfl (by kernel_rfl) (by decide) (fun K hK => ?_)
      refine step_append_cells (w0 := w2.drewN 1) (g + 1) (by rfl) (.tmp 23) (.tmp 25) 24 32 (.agg #[.int .i64 0, .int .i64 0, .int .i64 0]) 3 24 rfl Try.underlying24 info_id rfl (by decide) (by decide) (.slice X l.length y) l.length (nums .i64 (idF l)) [.int .i64 r, .int .i64 lv, .int .i64 ix] rfl rfl rfl (by intro u hu; simp at hu; rcases hu with rfl | rfl | rfl <;> rfl) ho9.out (Below.refl _ _) (by have := hC9.at_lt; omega) (by omega) ?_
      intro v1 wd od hBd hgd had
      have hkD := blk_grown hk9 hgd (own_ne ho9.out hk9 (by decide))
      have hGR := Grew.app (x := ⟨r, lv, ix⟩) hC9 hk9 ho9 od hgd had hM hMg
      obtain ⟨X1, y1, hv1, _, _⟩ := hGR.row.reads
      rw [show (l ++ [(⟨r, lv, ix⟩ : Ce)]).length = l.length + 1 by simp] at hv1
      subst hv1
      refine hK.out _ _ ?_
      clear hK K
      refine norm_ (a' := ?_) ?_ ?_
      rotate_left
      · show Act.put _ (some 26) _ = _
        simp only [Act.put, List.setIfInBounds_toArray, List.set_cons_zero, List.set_cons_succ, i64_w, i32_w]
        rfl
      have HGR := hid (hGR.before bD (fun q hq => own_lt HO.out.out q hq))
      clear hGR hgd had od hBd
      refine pure_ (i := 7) (N := (some 27)) (v := ?_) (a' := ?_) #[true, true, true, true, true, true, true, true, false] rfl rfl (by kernel_rfl) (fun _ _ _ h => h) (Or.inl ⟨by rfl, ?_⟩) ?_ ?_
      rotate_left
      · intro w'
        go_simp
        with_reducible rfl
      rotate_left
      · simp only [Act.put, List.setIfInBounds_toArray, List.set_cons_zero, List.set_cons_succ, i64_w, i32_w]
        rfl
      refine last_ (i := 8) (N := none) #[true, true, true, true, true, true, true, true, true] rfl rfl (by kernel_rfl) (by decide) (fun K hK => ?_)
      have hs1 := (blk_cell hkD 1).trans (show _ = some (Value.slice X l.length y) from rfl)
      have hf1 := blk_frozen hkD 1
      clear hkD hk9 ho9 hC9 bD
      refine skip_ (w1 := ?_) (by rfl) rfl ?_ ?_
      rotate_left
      · go_simp
        rfl
      refine hK.out _ _ ?_
      clear hK K
      refine done_ (by kernel_rfl) ?_
      clear hs1 hf1
      go_wp2
      exact bodyPost_ret (v := .tuple #[]) (by simp [results, Try.results56, go_sem]) rfl ⟨_, _, _, rfl, (HGD.out.trans (by rw [List.append_nil]; exact HGR.out)).before HB0.out HV.out, meshEnd_one HX.out⟩
    | true =>
      have HGD := hid hGr
      clear hC2 hG2 hGr hXB2 hx
      go_wp2
      go_loopw [8] (fun v8 wr => ∃ (s : Nat) (v' : Value) (l' : List Ce), s ≤ 2 ∧ v8 = .int .i64 s ∧ Hid (Grew w0 W1 wr g M ro (.slice X l.length y) v' l l') ∧ Hid (meshEnd l' (ceAt ⟨r, lv, ix⟩) = some (cutX ⟨r, lv, ix⟩ s))) (fun v8 _ => 2 - (intOf v8).toNat)
      case atStart => exact ⟨0, _, [], by omega, rfl, HGD, hid rfl⟩
      case round =>
        obtain ⟨s, v', l', hs, rfl, hGr, hme⟩ := hrel
        have hXB2 := hGr.out.at HXB.out HXN.out.1 HXN.out.2.1 HXN.out.2.2
        replace g0 : wr.cell? ⟨w.heap.size, 0, none⟩ = some (.int .i64 r) := (blk_cell hXB2 0).trans rfl
        replace g1 : wr.cell? ⟨w.heap.size, 1, none⟩ = some (.int .i64 lv) := (blk_cell hXB2 1).trans rfl
        replace g2 : wr.cell? ⟨w.heap.size, 2, none⟩ = some (.int .i64 ix) := (blk_cell hXB2 2).trans rfl
        clear hXB2
        by_cases hlt : s < 2
        · have t1 : decide ((s : Int) < 2) = true := decide_eq_true (by omega)
          go_wp2_with fail
          refine (spec_ChildOf ⟨r, lv, ix⟩ s _ HX.out hlv hlt).mono ?_
          rintro e w3 ⟨rfl, b3⟩
          have hk := kid_ok HX.out hlv s (by omega)
          have hkc := cutX_kid HX.out hlv s hlt
          have hlen : l'.length ≤ 16 := by
            have h2 := meshEnd_len _ _ _ hme.out
            have h3 : cutX ⟨r, lv, ix⟩ s ≤ ceAt ⟨r, lv, ix⟩ + 16 := by
              have h4 := kid_at HX.out hlv
              have h5 := wid_range lv
              have h6 := wid_range (lv + 1)
              have h7 : ceEnd ⟨r, lv, ix⟩ = ceAt ⟨r, lv, ix⟩ + wid lv := rfl
              have h8 : ceEnd (kid ⟨r, lv, ix⟩ 1) = ceAt (kid ⟨r, lv, ix⟩ 1) + wid (lv + 1) := rfl
              unfold cutX
              (repeat' split) <;> omega
            omega
          obtain ⟨q0, q1, q2, hq⟩ : ∃ q0 q1 q2, kid ⟨r, lv, ix⟩ s = ⟨q0, q1, q2⟩ := ⟨_, _, _, rfl⟩
          have hql : q1 = lv + 1 := by have := congrArg Ce.l hq; exact this.symm
          rw [hq] at hk hkc ⊢
          have bX := b3.trans (Bw.box1 w3 (.cells #[.int .i64 q0, .int .i64 q1, .int .i64 q2] 32))
          have c0 := box_cell (Bw.refl (w3.alloc (.cells #[.int .i64 q0, .int .i64 q1, .int .i64 q2] 32))) 0
          have c1 := box_cell (Bw.refl (w3.alloc (.cells #[.int .i64 q0, .int .i64 q1, .int .i64 q2] 32))) 1
          have c2 := box_cell (Bw.refl (w3.alloc (.cells #[.int .i64 q0, .int .i64 q1, .int .i64 q2] 32))) 2
          simp only [List.getElem?_toArray, List.getElem?_cons_zero, List.getElem?_cons_succ] at c0 c1 c2
          have HKID := hid hk
          have HKC := hid hkc
          have HQL := hid hql
          have HAF := hid (hGr.out.after bX)
          have ec : IntKind.i64.wrap (ch + 1) = ch + 1 := i64w (by omega) (by omega)
          clear hk hkc hq hql b3 bX
          go_wp2_with fail
          have hL : (l ++ l').length = l.length + l'.length := List.length_append
          refine (ih ⟨q0, q1, q2⟩ (ch + 1) _ v' (l ++ l') HKID.out (by have h1 := HQL.out; have h2 := HD.out; show q1 + (d : Int) = 4; omega) (by omega) (by omega) (by omega) HAF.out.cur HAF.out.blk HAF.out.row).mono ?_
          rintro e w4 ⟨u, v2, l2, rfl, hG4, hm4⟩
          have HG4 := hid (HAF.out.trans hG4)
          have HM4 := hid (show meshEnd (l' ++ l2) (ceAt ⟨r, lv, ix⟩) = some (cutX ⟨r, lv, ix⟩ (s + 1)) by
            rw [meshEnd_app, hme.out]
            show meshEnd l2 _ = _
            rw [← HKC.out.1, ← HKC.out.2]
            exact hm4)
          clear hG4 hm4
          go_wp2
          go_roundw
          case rel => exact ⟨s + 1, _, _, by omega, by go_num, HG4, HM4⟩
          case measure => simp [intOf]; omega
        · obtain rfl : s = 2 := by omega
          have t1 : decide (((2 : Nat) : Int) < 2) = false := decide_eq_false (by omega)
          go_wp2
          exact bodyPost_end (v := .tuple #[]) (by simp [results, Try.results56, go_sem]) rfl ⟨_, _, _, rfl, hGr.out.before HB0.out HV.out, hme.out⟩
theorem grown_cur {w0 w w' : World} {g : Nat} (h : Cur w0 w g) (k : Cur w0 w' g) (hs : w.heap.size ≤ w'.heap.size) (hb : ∀ b, b < w.heap.size → b ≠ g → w'.heap[b]? = w.heap[b]?) : w.grownBy w' (some g) :=
  ⟨k.below.os.trans h.below.os.symm, k.below.tape.trans h.below.tape.symm, k.below.output.trans h.below.output.symm, hs, fun b hb1 hne => hb b hb1 (fun e => hne (by rw [e]))⟩
/-- a mesh drawn -/
structure MeshD (ro : Int) (l : List Ce) : Prop where
  rng : 1 ≤ ro ∧ ro ≤ 3
  en : meshEnd l 0 = some (ro * 16)
theorem MeshD.ok {ro : Int} {l : List Ce} (h : MeshD ro l) : meshOk ro l = true := by
  rw [meshOk, h.en, endIs_some (inR_iff.2 (by have := h.rng; omega))]
  simp
set_option maxHeartbeats 8000000 in
set_option maxRecDepth 100000 in
theorem l04Mesh (w0 : World) (g : Nat) (w : World) (hC : Cur w0 w g) :
    Calls Try.prog 29 #[.pointer (some ⟨g, 0, none⟩)] w fun e w' => ∃ ro X n y l, e = .returned (.agg #[.int .i64 ro, .slice X n y]) ∧ MeshD ro l ∧ FO w' (g + 1) 32 3 (.slice X n y) n (idF l) ∧ Cur w0 w' g ∧ w.grownBy w' (some g) := by
  have b0 := Bw.box1 w (.cells #[.int .i64 0, .slice none 0 0] 26)
  have hR := heap_alloc_new w (.cells #[.int .i64 0, .slice none 0 0] 26 (0, 0))
  have hC1 := hC.bw b0
  have hRg : w.heap.size ≠ g := by have := hC.at_lt; omega
  go_enter Try.func29, Try.ntmps29
  go_wp2_with fail
  generalize (w.alloc (.cells #[.int .i64 0, .slice none 0 0] 26)) = W1 at *
  refine (l01Below w0 g 3 _ hC1).mono ?_
  rintro e w2 ⟨⟨x, rfl, x1, x2⟩, hC2, hG2⟩
  have hx3 := x2 (by omega)
  have HR := hid (blk_grown hR hG2 (fun e => hRg (Option.some.inj e)))
  have e1 : IntKind.i64.wrap (1 + x) = 1 + x := i64w (by omega) (by omega)
  obtain ⟨ro, hro⟩ : ∃ ro, 1 + x = ro := ⟨_, rfl⟩
  rw [hro] at e1
  have hro2 : 1 ≤ ro ∧ ro ≤ 3 := by omega
  have bM := Bw.box1 w2 (.cells #[.int .i64 ro, .slice none 0 0] 26)
  have HC3 := hid (hC2.bw bM)
  have hk3 := heap_alloc_new w2 (.cells #[.int .i64 ro, .slice none 0 0] 26 (0, 0))
  have HM := hid (show w0.heap.size ≤ w2.heap.size ∧ w2.heap.size ≠ g ∧ w.heap.size ≠ w2.heap.size ∧ w.heap.size < w2.heap.size from ⟨hC2.below.size, by have := hC2.at_lt; omega, by have := blk_lt HR.out; omega, blk_lt HR.out⟩)
  have hG0 := hid (Grew.none (l := []) HC3.out hk3 (FO.nil _ _ _ _))
  have HR3 := hid ((bM.out.block _ (blk_lt HR.out)).trans HR.out)
  have HBW := hid b0
  have HG2 := hid hG2
  have HBM := hid bM
  have HRG := hid hRg
  clear hR hC1 hC2 hG2 bM hk3 b0 x2 hRg
  go_wp2
  generalize hWM : (w2.alloc (.cells #[.int .i64 ro, .slice none 0 0] 26)) = W3 at *
  go_loopw [4] (fun v4 wr => ∃ (r : Nat) (v' : Value) (l' : List Ce), (r : Int) ≤ ro ∧ v4 = .int .i64 r ∧ Hid (Grew w0 W3 wr g w2.heap.size ro (.slice none 0 0) v' [] l') ∧ Hid (meshEnd l' 0 = some ((r : Int) * 16))) (fun v4 _ => 4 - (intOf v4).toNat)
  case atStart => exact ⟨0, _, [], by omega, rfl, hG0, hid rfl⟩
  case round =>
    obtain ⟨r, v', l', hr, rfl, hGr, hme⟩ := hrel
    obtain ⟨X, y, hv, hy, _⟩ := hGr.out.row.reads
    rw [List.nil_append] at hv
    subst hv
    have g0 : wr.cell? ⟨w2.heap.size, 0, none⟩ = some (.int .i64 ro) := (blk_cell hGr.out.blk 0).trans rfl
    have g1 : wr.cell? ⟨w2.heap.size, 1, none⟩ = some (.slice X l'.length y) := (blk_cell hGr.out.blk 1).trans rfl
    have hl48 : l'.length ≤ 48 := by
      have := meshEnd_len _ _ _ hme.out
      omega
    by_cases hlt : (r : Int) < ro
    · have t1 : decide ((r : Int) < ro) = true := decide_eq_true hlt
      go_wp2_with fail
      refine (l01Below w0 g 2 _ hGr.out.cur).mono ?_
      rintro e w4 ⟨⟨z, rfl, z1, z2⟩, hC4, hG4⟩
      have hz := z2 (by omega)
      have ez : IntKind.i64.wrap (1 + z) = 1 + z := i64w (by omega) (by omega)
      have HGD := hid (Grew.draw hC4 hG4 HM.out.2.1 hGr.out.blk hGr.out.row)
      clear hC4 hG4 z2
      have hok : ceOk ⟨r, 0, 0⟩ = true := by
        simp only [ceOk, Bool.and_eq_true, inR_iff]
        refine ⟨⟨by omega, by omega⟩, by omega, ?_⟩
        show (0 : Int) ≤ pow2 0 - 1
        decide
      have hat : ceAt ⟨r, 0, 0⟩ = (r : Int) * 16 ∧ ceEnd ⟨r, 0, 0⟩ = ((r + 1 : Nat) : Int) * 16 := by
        have h1 : ceAt ⟨r, 0, 0⟩ = (r : Int) * 16 := by rw [ceAt, if_pos hok]; simp
        refine ⟨h1, ?_⟩
        rw [ceEnd, h1]
        show (r : Int) * 16 + wid 0 = _
        rw [show wid 0 = 16 from rfl]
        omega
      have HOK := hid hok
      have HAT := hid hat
      clear hok hat
      go_wp2_with fail
      refine (l04Root w0 g w2.heap.size ro HM.out.1 HM.out.2.1 4 ⟨r, 0, 0⟩ (1 + z) _ _ l' HOK.out (by simp) (by omega) (by omega) (by omega) HGD.out.cur HGD.out.blk (by have h := HGD.out.row; rw [List.append_nil] at h; exact h)).mono ?_
      rintro e w5 ⟨u, v2, l2, rfl, hG5, hm5⟩
      have HG5 := hid (hGr.out.trans (HGD.out.trans (show Grew w0 w4 w5 g w2.heap.size ro _ v2 (([] ++ l') ++ []) l2 by rw [List.append_nil]; exact hG5)))
      have HM5 := hid (show meshEnd (l' ++ l2) 0 = some (((r + 1 : Nat) : Int) * 16) by
        rw [meshEnd_app, hme.out]
        show meshEnd l2 _ = _
        rw [← HAT.out.1, ← HAT.out.2]
        exact hm5)
      clear hG5 hm5
      go_wp2
      go_roundw
      case rel => exact ⟨r + 1, _, _, by omega, by go_num, HG5, HM5⟩
      case measure => simp [intOf]; omega
    · have hrr : (r : Int) = ro := by omega
      have t1 : decide ((r : Int) < ro) = false := decide_eq_false hlt
      have HRR := hid hrr
      have hRf := hGr.out.at HR3.out HRG.out HM.out.2.2.1 (by intro e; cases e)
      have s0 := (blk_cell hRf 0).trans (show _ = some (Value.int .i64 0) from rfl)
      have s1 := (blk_cell hRf 1).trans (show _ = some (Value.slice none 0 0) from rfl)
      have f0 := blk_frozen hRf 0
      have f1 := blk_frozen hRf 1
      have HF := hid (show ((wr.setCell ⟨w.heap.size, 0, none⟩ (.int .i64 ro)).setCell ⟨w.heap.size, 1, none⟩ (.slice X l'.length y)).heap[w.heap.size]? = some (.cells #[.int .i64 ro, .slice X l'.length y] 26 (0, 0)) from blk_set (blk_set hRf 0 _) 1 _)
      have CF : Wi wr ((wr.setCell ⟨w.heap.size, 0, none⟩ (.int .i64 ro)).setCell ⟨w.heap.size, 1, none⟩ (.slice X l'.length y)) w.heap.size (w.heap.size + 1) := ((Wi.refl wr _ _).trans (Wi.put _ _ 0 _)).trans (Wi.put _ _ 1 _)
      have HCF := hid ((hGr.out.cur.set (M := w.heap.size) (by have := hC.below.size; omega) HRG.out 0 (.int .i64 ro)).set (M := w.heap.size) (by have := hC.below.size; omega) HRG.out 1 (.slice X l'.length y))
      have HOF := hid (show FO ((wr.setCell ⟨w.heap.size, 0, none⟩ (.int .i64 ro)).setCell ⟨w.heap.size, 1, none⟩ (.slice X l'.length y)) (g + 1) 32 3 (.slice X l'.length y) l'.length (idF l') from ⟨own_move hGr.out.row.out fun q hq => CF.block q (own_lt hGr.out.row.out q hq) (fun e => own_ne hGr.out.row.out hRf (by decide) (by rw [hq, show q = w.heap.size by omega]))⟩)
      have HGW := hid (show w.grownBy ((wr.setCell ⟨w.heap.size, 0, none⟩ (.int .i64 ro)).setCell ⟨w.heap.size, 1, none⟩ (.slice X l'.length y)) (some g) from grown_cur hC HCF.out (by have h1 := hGr.out.keep.size; have h2 := HBW.out.size; have h3 := HG2.out.size; have h4 := HBM.out.size; have h5 := CF.size; omega) (fun b hb hne => by
        have h1 := HBW.out.size
        have h2 := HG2.out.size
        have h3 := HBM.out.size
        refine (CF.block b (by have := hGr.out.keep.size; omega) (by omega)).trans ((hGr.out.keep.block b (by omega) hne (by have := HM.out.2.2.2; omega) (by intro e; cases e)).trans ((HBM.out.out.block b (by omega)).trans ((HG2.out.block b (by omega) (fun e => hne (Option.some.inj e))).trans (HBW.out.out.block b hb)))) ))
      clear CF hRf
      go_wp2
      refine bodyPost_ret (results_cell_row rfl _ _ w.heap.size 26 #[.int .i64 ro, .slice X l'.length y] (0, 0) _ rfl HF.out Try.underlying26 rfl (by kernel_rfl)) rfl ?_
      exact ⟨_, _, _, _, rfl, _, ⟨hro2, by rw [← HRR.out]; exact hme.out⟩, HOF.out, HCF.out, HGW.out⟩
set_option maxHeartbeats 4000000 in
theorem DrawMesh (A0 : Option Addr) (n0 c0 : Nat) (bytes : List Int) (w : World) (r : ReadsInt w .u8 A0 n0 bytes) (hby : ∀ x ∈ bytes, 0 ≤ x ∧ x ≤ 255) (hn : n0 ≤ 1048576) :
    Calls Try.prog 9 #[.slice A0 n0 c0] w fun e w' => ∃ ro X n y l, e = .returned (.agg #[.int .i64 ro, .slice X n y]) ∧ MeshD ro l ∧ FO w' w.heap.size 32 3 (.slice X n y) n (idF l) ∧ Bw w w' := by
  have HBY := hid hby
  clear hby
  have b0 := Bw.box1 w (.cells #[.int .i64 0, .slice none 0 0] 26)
  have hR := heap_alloc_new w (.cells #[.int .i64 0, .slice none 0 0] 26 (0, 0))
  go_enter Try.func9, Try.ntmps9
  go_wp2_with fail
  generalize (w.alloc (.cells #[.int .i64 0, .slice none 0 0] 26)) = W1 at *
  refine (l01New A0 n0 c0 bytes _ (r.below b0.out) HBY.out hn).mono ?_
  rintro e w2 ⟨g, rfl, hC⟩
  have hR2 := (hC.bw0.out.block _ (blk_lt hR)).trans hR
  have hRg : w.heap.size < g := by have h1 := hC.lo; have h2 := blk_lt hR; omega
  go_wp2_with fail
  refine (l04Mesh W1 g _ hC).mono ?_
  rintro e w3 ⟨ro, X, n, y, l, rfl, hm, ho, hC3, hG3⟩
  have hRf := (hC3.bw0.out.block _ (blk_lt hR)).trans hR
  have s0 := (blk_cell hRf 0).trans (show _ = some (Value.int .i64 0) from rfl)
  have s1 := (blk_cell hRf 1).trans (show _ = some (Value.slice none 0 0) from rfl)
  have f0 := blk_frozen hRf 0
  have f1 := blk_frozen hRf 1
  have HF := hid (show ((w3.setCell ⟨w.heap.size, 0, none⟩ (.int .i64 ro)).setCell ⟨w.heap.size, 1, none⟩ (.slice X n y)).heap[w.heap.size]? = some (.cells #[.int .i64 ro, .slice X n y] 26 (0, 0)) from blk_set (blk_set hRf 0 _) 1 _)
  have CF : Wi w3 ((w3.setCell ⟨w.heap.size, 0, none⟩ (.int .i64 ro)).setCell ⟨w.heap.size, 1, none⟩ (.slice X n y)) w.heap.size (w.heap.size + 1) := ((Wi.refl w3 _ _).trans (Wi.put _ _ 0 _)).trans (Wi.put _ _ 1 _)
  have HOF := hid (show FO ((w3.setCell ⟨w.heap.size, 0, none⟩ (.int .i64 ro)).setCell ⟨w.heap.size, 1, none⟩ (.slice X n y)) w.heap.size 32 3 (.slice X n y) n (idF l) from FO.less ⟨own_move ho.out fun q hq => CF.block q (own_lt ho.out q hq) (fun e => own_ne ho.out hRf (by decide) (by rw [hq, show q = w.heap.size by omega]))⟩ (by omega))
  have HBF := hid ((b0.trans hC3.bw0).then_wi CF (Nat.le_refl _))
  clear hC hC3 hG3 hR hR2 hRf CF ho b0
  go_wp2
  refine bodyPost_ret (results_cell_row rfl _ _ w.heap.size 26 #[.int .i64 ro, .slice X n y] (0, 0) _ rfl HF.out Try.underlying26 rfl (by kernel_rfl)) rfl ?_
  exact ⟨_, _, _, _, _, rfl, hm, HOF.out, HBF.out⟩
end Go.Proofs.Ytaemkneppphkmaa.U
