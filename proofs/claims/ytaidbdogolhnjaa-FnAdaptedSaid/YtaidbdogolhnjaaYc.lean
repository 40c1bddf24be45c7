
/- (*Mesh).refine. -/
import Derived.Test.YtaidbdogolhnjaaYb
set_option linter.unusedVariables false
set_option linter.unusedSimpArgs false
namespace Go.Proofs.Ytaidbdogolhnjaa.U
open Go.RowKit Go.Lib Go.Proofs.YtaidbdogolhnjaaW.PrintWords

open Go.Proofs.YtaidbdogolhnjaaW.PrintLast Go.Proofs.YtaidbdogolhnjaaW.PrintMore
theorem impl_child (x : Ce) (s : Int) (w : World) (hx : ceOk x = true) (hs : 0 ≤ s ∧ s ≤ 1) :
    Calls Try.prog 85 #[.agg #[.int .i64 x.r, .int .i64 x.l, .int .i64 x.i], .int .i64 s] w fun e w' => e = .returned (.agg #[.int .i64 (kid x s).r, .int .i64 (kid x s).l, .int .i64 (kid x s).i]) ∧ Bw w w' := by
  obtain ⟨h1, h2, h3, h4⟩ := ceOk_facts hx
  obtain ⟨q0, q1, q2⟩ := x
  simp only at h1 h2 h3 h4
  have e1 : IntKind.i64.wrap (q1 + 1) = q1 + 1 := i64w (by omega) (by omega)
  have e2 : IntKind.i64.wrap (2 * q2) = 2 * q2 := by clear e1; exact i64w (by omega) (by omega)
  have e3 : IntKind.i64.wrap (2 * q2 + s) = 2 * q2 + s := by clear e1 e2; exact i64w (by omega) (by omega)
  have b0 := (Bw.box1 w (.cells #[.int .i64 q0, .int .i64 q1, .int .i64 q2] 58)).alloc (.cells #[.int .i64 0, .int .i64 0, .int .i64 0] 58)
  have g0 := box_cell ((Bw.refl (w.alloc (.cells #[.int .i64 q0, .int .i64 q1, .int .i64 q2] 58))).alloc (.cells #[.int .i64 0, .int .i64 0, .int .i64 0] 58)) 0
  have g1 := box_cell ((Bw.refl (w.alloc (.cells #[.int .i64 q0, .int .i64 q1, .int .i64 q2] 58))).alloc (.cells #[.int .i64 0, .int .i64 0, .int .i64 0] 58)) 1
  have g2 := box_cell ((Bw.refl (w.alloc (.cells #[.int .i64 q0, .int .i64 q1, .int .i64 q2] 58))).alloc (.cells #[.int .i64 0, .int .i64 0, .int .i64 0] 58)) 2
  simp only [List.getElem?_toArray, List.getElem?_cons_zero, List.getElem?_cons_succ] at g0 g1 g2
  have hR := heap_alloc_new (w.alloc (.cells #[.int .i64 q0, .int .i64 q1, .int .i64 q2] 58)) (.cells #[.int .i64 0, .int .i64 0, .int .i64 0] 58 (0, 0))
  rw [show (w.alloc (.cells #[.int .i64 q0, .int .i64 q1, .int .i64 q2] 58)).heap.size = w.heap.size + 1 by simp] at hR
  go_enter Try.func85, Try.ntmps85
  go_upto_region 1 with fail
  generalize ((w.alloc (.cells #[.int .i64 q0, .int .i64 q1, .int .i64 q2] 58)).alloc (.cells #[.int .i64 0, .int .i64 0, .int .i64 0] 58)) = W1 at *
  have s0 := (blk_cell hR 0).trans (show _ = some (Value.int .i64 0) from rfl)
  have s1 := (blk_cell hR 1).trans (show _ = some (Value.int .i64 0) from rfl)
  have s2 := (blk_cell hR 2).trans (show _ = some (Value.int .i64 0) from rfl)
  have f0 := blk_frozen hR 0
  have f1 := blk_frozen hR 1
  have f2 := blk_frozen hR 2
  have HF := hid (blk_set (blk_set (blk_set hR 0 (.int .i64 q0)) 1 (.int .i64 (q1 + 1))) 2 (.int .i64 (2 * q2 + s)))
  have HB := hid (b0.then_wi (((Wi.refl W1 (w.heap.size + 1) (w.heap.size + 2)).trans (Wi.set _ _ 0 (.int .i64 q0))).trans (Wi.set _ _ 1 (.int .i64 (q1 + 1))) |>.trans (Wi.set _ _ 2 (.int .i64 (2 * q2 + s)))) (by omega))
  clear hR b0
  go_wp2
  refine bodyPost_ret (results_cell_row rfl _ _ (w.heap.size + 1) 58 #[.int .i64 q0, .int .i64 (q1 + 1), .int .i64 (2 * q2 + s)] (0, 0) _ rfl HF.out Try.underlying58 rfl (by kernel_rfl)) rfl ?_
  exact ⟨rfl, HB.out⟩

theorem idF_consY (x : Ce) (l : List Ce) : idF (x :: l) = x.r :: x.l :: x.i :: idF l := rfl
theorem idF_takeY : ∀ (l : List Ce) (b : Nat), idF (l.take b) = (idF l).take (b * 3)
  | [], b => by simp [idF]
  | x :: l, 0 => by simp [idF]
  | x :: l, b + 1 => by rw [List.take_succ_cons, idF_consY, idF_consY, idF_takeY l b, show (b + 1) * 3 = b * 3 + 1 + 1 + 1 by omega]; rfl
theorem idF_dropY : ∀ (l : List Ce) (b : Nat), idF (l.drop b) = (idF l).drop (b * 3)
  | [], b => by simp [idF]
  | x :: l, 0 => by simp
  | x :: l, b + 1 => by rw [List.drop_succ_cons, idF_consY, idF_dropY l b, show (b + 1) * 3 = b * 3 + 1 + 1 + 1 by omega]; rfl
theorem splitC_length {l : List Ce} {i : Nat} (h : i < l.length) : (splitC l i).length = l.length + 1 := by
  rw [splitC]
  simp only [List.length_append, List.length_take, List.length_drop, List.length_cons, List.length_nil]
  omega
theorem idF_split (l : List Ce) (i : Nat) : idF (splitC l i) = (idF l).take (i * 3) ++ [(kid (gc l i) 0).r, (kid (gc l i) 0).l, (kid (gc l i) 0).i, (kid (gc l i) 1).r, (kid (gc l i) 1).l, (kid (gc l i) 1).i] ++ (idF l).drop ((i + 1) * 3) := by
  rw [splitC, idF_append, idF_append, idF_takeY, idF_dropY]
  rfl

set_option maxHeartbeats 8000000 in
set_option maxRecDepth 100000 in
theorem impl_Mrefine (Kp : Nat → Prop) (P : Nat) (s : Sta) (vl vm vt vb : Value) (i : Nat) (w : World) (h : BS w Kp P s vl vm vt vb) (hi : i < s.lv.length) (hn : s.lv.length ≤ 1000) (hx : ceOk (gc s.lv i) = true) :
    Calls Try.prog 59 #[.pointer (some ⟨P, 0, none⟩), .int .i64 i] w fun e w' => ∃ u vl', e = .returned u ∧ BS w' Kp P { s with lv := splitC s.lv i } vl' vm vt vb ∧ Fk w w' Kp := by
  obtain ⟨n, hN⟩ : ∃ n, s.lv.length = n := ⟨_, rfl⟩
  have HN := hid hN
  have hl := h.l
  rw [hN] at hl hi hn
  have HI := hid hi
  have HN2 := hid (show n ≤ 1000000 by omega)
  obtain ⟨A, c, rfl, hc, _⟩ := hl.reads
  have hr := FO.idR hl
  obtain ⟨ad, rfl, x0, x1, x2⟩ := hr.at i hi
  obtain ⟨q0, q1, q2, hq⟩ : ∃ q0 q1 q2, gc s.lv i = ⟨q0, q1, q2⟩ := ⟨_, _, _, rfl⟩
  rw [hq] at hx x0 x1 x2
  simp only at x0 x1 x2
  have HX := hid hx
  have HQ := hid hq
  have k1 : w.cell? ⟨P, 1, none⟩ = some (.slice (some ad) n c) := (blk_cell h.st 1).trans rfl
  have i4 : (0 : Int) ≤ (i : Int) := by omega
  have i5 : (i : Int) < (n : Int) := by omega
  have e1 : IntKind.i64.wrap ((i : Int) + 1) = (i : Int) + 1 := i64w (by omega) (by omega)
  have b1 := Bw.box1 w (.cells #[.int .i64 q0, .int .i64 q1, .int .i64 q2] 58)
  have y0 := box_cell (Bw.refl (w.alloc (.cells #[.int .i64 q0, .int .i64 q1, .int .i64 q2] 58))) 0
  have y1 := box_cell (Bw.refl (w.alloc (.cells #[.int .i64 q0, .int .i64 q1, .int .i64 q2] 58))) 1
  have y2 := box_cell (Bw.refl (w.alloc (.cells #[.int .i64 q0, .int .i64 q1, .int .i64 q2] 58))) 2
  simp only [List.getElem?_toArray, List.getElem?_cons_zero, List.getElem?_cons_succ] at y0 y1 y2
  have h1 := hid (h.to b1)
  have HF1 := hid (Fk.bw b1 h.kw)
  have HKW := hid h.kw
  clear hl hc hr hN hq hx hi hn h b1
  go_enter Try.func59, Try.ntmps59
  go_upto_region 1 with fail
  replace k1 : (w.alloc (.cells #[.int .i64 q0, .int .i64 q1, .int .i64 q2] 58)).cell? ⟨P, 1, none⟩ = some (.slice (some ad) n c) := (blk_cell h1.out.st 1).trans rfl
  clear x0 x1 x2
  generalize (w.alloc (.cells #[.int .i64 q0, .int .i64 q1, .int .i64 q2] 58)) = W1 at *
  generalize w.heap.size = X at *
  generalize hA : (some ad) = A at *
  have bD := Bw.drawn (a := W1) ⟨⟨1, rfl⟩⟩
  refine start_ (n := 17) (S := fun w' => w'.cell? ⟨P, 1, none⟩ = some (.slice A n c) ∧ w'.cell? ⟨X, 0, none⟩ = some (.int .i64 q0) ∧ w'.cell? ⟨X, 1, none⟩ = some (.int .i64 q1) ∧ w'.cell? ⟨X, 2, none⟩ = some (.int .i64 q2)) (ds := [13, 16]) #[false, false, false, false, false, false, false, false, false, false, false, false, false, false, false, false, false] (by kernel_rfl) rfl rfl ⟨k1, y0, y1, y2⟩ (fun hHeld => ?_)
  refine pure_ (i := 0) (N := (some 12)) (v := ?_) (a' := ?_) #[true, false, false, false, false, false, false, false, false, false, false, false, false, false, false, false, false] rfl rfl (by kernel_rfl) (fun _ _ _ h => h) (Or.inl ⟨by rfl, ?_⟩) ?_ ?_
  rotate_left
  · intro w'
    go_simp
    with_reducible rfl
  rotate_left
  · simp only [Act.put, List.setIfInBounds_toArray, List.set_cons_zero, List.set_cons_succ, i64_w, i32_w]
    rfl
  refine pure_ (i := 1) (N := (some 13)) (v := ?_) (a' := ?_) #[true, true, false, false, false, false, false, false, false, false, false, false, false, false, false, false, false] rfl rfl (by kernel_rfl) (fun _ _ _ h => h) (Or.inl ⟨by rfl, ?_⟩) ?_ ?_
  rotate_left
  · intro w'
    go_simp
    with_reducible rfl
  rotate_left
  · simp only [Act.put, List.setIfInBounds_toArray, List.set_cons_zero, List.set_cons_succ, i64_w, i32_w]
    rfl
  refine pure_ (i := 2) (N := (some 14)) (v := ?_) (a' := ?_) #[true, true, true, false, false, false, false, false, false, false, false, false, false, false, false, false, false] rfl rfl (by kernel_rfl) (fun _ _ _ h => h) (Or.inl ⟨by rfl, ?_⟩) ?_ ?_
  rotate_left
  · intro w'
    go_simp
    with_reducible rfl
  rotate_left
  · simp only [Act.put, List.setIfInBounds_toArray, List.set_cons_zero, List.set_cons_succ, i64_w, i32_w]
    rfl
  refine pure_ (i := 3) (N := (some 15)) (v := ?_) (a' := ?_) #[true, true, true, true, false, false, false, false, false, false, false, false, false, false, false, false, false] rfl rfl (by kernel_rfl) (fun _ _ _ h => h) (Or.inl ⟨by rfl, ?_⟩) ?_ ?_
  rotate_left
  · intro w'
    go_simp
    with_reducible rfl
  rotate_left
  · simp only [Act.put, List.setIfInBounds_toArray, List.set_cons_zero, List.set_cons_succ, i64_w, i32_w]
    rfl
  refine take_ (i := 4) (N := (some 16)) (v := ?_) (a' := ?_) #[true, true, true, true, true, false, false, false, false, false, false, false, false, false, false, false, false] rfl rfl (by kernel_rfl) (fun _ _ _ h => h) (Or.inl ⟨by rfl, ?_⟩) hHeld ?_ ?_
  rotate_left
  · rintro w' ⟨s0, s1, s2, s3⟩
    go_simp
    with_reducible rfl
  rotate_left
  · simp only [Act.put, List.setIfInBounds_toArray, List.set_cons_zero, List.set_cons_succ, i64_w, i32_w]
    rfl
  refine pure_ (i := 5) (N := (some 17)) (v := ?_) (a' := ?_) #[true, true, true, true, true, true, false, false, false, false, false, false, false, false, false, false, false] rfl rfl (by kernel_rfl) (fun _ _ _ h => h) (Or.inl ⟨by rfl, ?_⟩) ?_ ?_
  rotate_left
  · intro w'
    go_simp
    with_reducible rfl
  rotate_left
  · simp only [Act.put, List.setIfInBounds_toArray, List.set_cons_zero, List.set_cons_succ, i64_w, i32_w]
    rfl
  refine pure_ (i := 6) (N := (some 18)) (v := ?_) (a' := ?_) #[true, true, true, true, true, true, true, false, false, false, false, false, false, false, false, false, false] rfl rfl (by kernel_rfl) (fun _ _ _ h => h) (Or.inl ⟨by rfl, ?_⟩) ?_ ?_
  rotate_left
  · intro w'
    go_simp
    with_reducible rfl
  rotate_left
  · simp only [Act.put, List.setIfInBounds_toArray, List.set_cons_zero, List.set_cons_succ, i64_w, i32_w]
    rfl
  refine pure_ (i := 7) (N := (some 19)) (v := ?_) (a' := ?_) #[true, true, true, true, true, true, true, true, false, false, false, false, false, false, false, false, false] rfl rfl (by kernel_rfl) (fun _ _ _ h => h) (Or.inl ⟨by rfl, ?_⟩) ?_ ?_
  rotate_left
  · intro w'
    go_simp
    with_reducible rfl
  rotate_left
  · simp only [Act.put, List.setIfInBounds_toArray, List.set_cons_zero, List.set_cons_succ, i64_w, i32_w]
    rfl
  refine take_ (i := 8) (N := (some 20)) (v := ?_) (a' := ?_) #[true, true, true, true, true, true, true, true, true, false, false, false, false, false, false, false, false] rfl rfl (by kernel_rfl) (fun _ _ _ h => h) (Or.inl ⟨by rfl, ?_⟩) hHeld ?_ ?_
  rotate_left
  · rintro w' ⟨s0, s1, s2, s3⟩
    go_simp
    with_reducible rfl
  rotate_left
  · simp only [Act.put, List.setIfInBounds_toArray, List.set_cons_zero, List.set_cons_succ, i64_w, i32_w]
    rfl
  refine take_ (i := 10) (N := (some 22)) (v := ?_) (a' := ?_) #[true, true, true, true, true, true, true, true, true, false, true, false, false, false, false, false, false] rfl rfl (by kernel_rfl) (fun _ _ _ h => h) (Or.inl ⟨by rfl, ?_⟩) hHeld ?_ ?_
  rotate_left
  · rintro w' ⟨s0, s1, s2, s3⟩
    go_simp
    with_reducible rfl
  rotate_left
  · simp only [Act.put, List.setIfInBounds_toArray, List.set_cons_zero, List.set_cons_succ, i64_w, i32_w]
    rfl
  refine one_ (i := 9) (N := (some 21)) #[true, true, true, true, true, true, true, true, true, true, true, false, false, false, false, false, false] rfl rfl (by kernel_rfl) (by decide) (fun K hK => ?_)
  refine goes_ Try.func85 (by kernel_rfl) rfl #[.agg #[.int .i64 q0, .int .i64 q1, .int .i64 q2], .int .i64 0] (by rfl) rfl rfl (by (try simp only [List.map_toArray, List.map_cons, List.map_nil]); first | done | rfl) ?_
  refine (impl_child ⟨q0, q1, q2⟩ 0 _ HX.out (by omega)).mono ?_
  rintro e wa ⟨rfl, ba⟩
  refine ⟨_, rfl, ?_⟩
  obtain ⟨a0, a1, a2, ha⟩ : ∃ a0 a1 a2, kid ⟨q0, q1, q2⟩ 0 = ⟨a0, a1, a2⟩ := ⟨_, _, _, rfl⟩
  rw [ha]
  have HA := hid ha
  clear ha
  have bA := bD.trans ba
  refine hK.out _ _ ⟨pw_cell_below bA.out k1, pw_cell_below bA.out y0, pw_cell_below bA.out y1, pw_cell_below bA.out y2⟩ (fun hHeld => ?_)
  clear hK K
  refine norm_ (a' := ?_) ?_ ?_
  rotate_left
  · show Act.put _ (some 21) _ = _
    simp only [Act.put, List.setIfInBounds_toArray, List.set_cons_zero, List.set_cons_succ, i64_w, i32_w]
    rfl
  refine one_ (i := 11) (N := (some 23)) #[true, true, true, true, true, true, true, true, true, true, true, true, false, false, false, false, false] rfl rfl (by kernel_rfl) (by decide) (fun K hK => ?_)
  refine goes_ Try.func85 (by kernel_rfl) rfl #[.agg #[.int .i64 q0, .int .i64 q1, .int .i64 q2], .int .i64 1] (by rfl) rfl rfl (by (try simp only [List.map_toArray, List.map_cons, List.map_nil]); first | done | rfl) ?_
  refine (impl_child ⟨q0, q1, q2⟩ 1 _ HX.out (by omega)).mono ?_
  rintro e wb ⟨rfl, bb⟩
  refine ⟨_, rfl, ?_⟩
  obtain ⟨c0, c1, c2, hcc⟩ : ∃ c0 c1 c2, kid ⟨q0, q1, q2⟩ 1 = ⟨c0, c1, c2⟩ := ⟨_, _, _, rfl⟩
  rw [hcc]
  have HCC := hid hcc
  clear hcc
  have bB := bA.trans bb
  refine hK.out _ _ ⟨pw_cell_below bB.out k1, pw_cell_below bB.out y0, pw_cell_below bB.out y1, pw_cell_below bB.out y2⟩ (fun hHeld => ?_)
  clear hK K
  refine norm_ (a' := ?_) ?_ ?_
  rotate_left
  · show Act.put _ (some 23) _ = _
    simp only [Act.put, List.setIfInBounds_toArray, List.set_cons_zero, List.set_cons_succ, i64_w, i32_w]
    rfl
  have bC := bB.trans (Bw.box1 wb (.cells #[.int .i64 a0, .int .i64 a1, .int .i64 a2, .int .i64 c0, .int .i64 c1, .int .i64 c2] 58))
  have hv := heap_alloc_new wb (.cells #[.int .i64 a0, .int .i64 a1, .int .i64 a2, .int .i64 c0, .int .i64 c1, .int .i64 c2] 58 (0, 0))
  refine one_ (i := 12) (N := (some 24)) #[true, true, true, true, true, true, true, true, true, true, true, true, true, false, false, false, false] rfl rfl (by kernel_rfl) (by decide) (fun K hK => ?_)
  refine value_ (w1 := ?_) (v := ?_) (by rfl) rfl ?_ ?_
  rotate_left 2
  · go_simp
    constructor
    · rfl
    · rfl
  refine hK.out _ _ ⟨pw_cell_below bC.out k1, pw_cell_below bC.out y0, pw_cell_below bC.out y1, pw_cell_below bC.out y2⟩ (fun hHeld => ?_)
  clear hK K
  refine norm_ (a' := ?_) ?_ ?_
  rotate_left
  · show Act.put _ (some 24) _ = _
    simp only [Act.put, List.setIfInBounds_toArray, List.set_cons_zero, List.set_cons_succ, i64_w, i32_w]
    rfl
  clear hHeld
  have h5 := h1.out.to bC
  have hne : (Value.slice A n c).ownBlock ≠ some wb.heap.size := fun e => by have := own_lt (h1.out.to bB).l.out _ e; omega
  generalize (wb.alloc (.cells #[.int .i64 a0, .int .i64 a1, .int .i64 a2, .int .i64 c0, .int .i64 c1, .int .i64 c2] 58)) = w5 at *
  refine last_ (i := 13) (N := (some 25)) #[true, true, true, true, true, true, true, true, true, true, true, true, true, true, false, false, false] rfl rfl (by kernel_rfl) (by decide) (fun K hK => ?_)
  refine goes_ Try.func84 (by kernel_rfl) rfl #[.slice A n c, .int .i64 (i : Int), .int .i64 ((i : Int) + 1), .slice (some ⟨wb.heap.size, 0, none⟩) 2 2] (by rfl) rfl rfl (by (try simp only [List.map_toArray, List.map_cons, List.map_nil]); first | done | rfl) ?_
  refine (rep2_D 0 n i wb.heap.size (.slice A n c) (idF s.lv) [a0, a1, a2, c0, c1, c2] w5 (by have := h5.l; rw [HN.out] at this; exact this) (Nat.zero_le _) HI.out HN2.out hv rfl hne).mono ?_
  rintro e w6 ⟨v6, rfl, ho, hg, hown⟩
  refine ⟨_, rfl, ?_⟩
  obtain ⟨A6, c6, rfl, _, _⟩ := FO.reads ho
  have hq := hid (h5.put_l (l' := splitC s.lv i) (by rw [splitC_length (by rw [HN.out]; exact HI.out), HN.out, idF_split, HQ.out, HA.out, HCC.out]; exact ho) hg hown)
  have hst := blk_grown h5.st hg (own_ne h5.l.out h5.st (by decide))
  have s1 := (blk_cell hst 1).trans (show _ = some (Value.slice A n c) from rfl)
  have f1 := blk_frozen hst 1
  clear ho hg hown hst h5 hv hne
  refine hK.out _ _ ?_
  clear hK K
  refine norm_ (a' := ?_) ?_ ?_
  rotate_left
  · show Act.put _ (some 25) _ = _
    simp only [Act.put, List.setIfInBounds_toArray, List.set_cons_zero, List.set_cons_succ, i64_w, i32_w]
    rfl
  refine pure_ (i := 14) (N := (some 26)) (v := ?_) (a' := ?_) #[true, true, true, true, true, true, true, true, true, true, true, true, true, true, true, false, false] rfl rfl (by kernel_rfl) (fun _ _ _ h => h) (Or.inl ⟨by rfl, ?_⟩) ?_ ?_
  rotate_left
  · intro w'
    go_simp
    with_reducible rfl
  rotate_left
  · simp only [Act.put, List.setIfInBounds_toArray, List.set_cons_zero, List.set_cons_succ, i64_w, i32_w]
    rfl
  refine pure_ (i := 15) (N := (some 27)) (v := ?_) (a' := ?_) #[true, true, true, true, true, true, true, true, true, true, true, true, true, true, true, true, false] rfl rfl (by kernel_rfl) (fun _ _ _ h => h) (Or.inl ⟨by rfl, ?_⟩) ?_ ?_
  rotate_left
  · intro w'
    go_simp
    with_reducible rfl
  rotate_left
  · simp only [Act.put, List.setIfInBounds_toArray, List.set_cons_zero, List.set_cons_succ, i64_w, i32_w]
    rfl
  refine last_ (i := 16) (N := none) #[true, true, true, true, true, true, true, true, true, true, true, true, true, true, true, true, true] rfl rfl (by kernel_rfl) (by decide) (fun K hK => ?_)
  refine skip_ (w1 := ?_) (by rfl) rfl ?_ ?_
  rotate_left
  · go_simp
    rfl
  refine hK.out _ _ ?_
  clear hK K
  refine done_ (by kernel_rfl) ?_
  clear k1 y0 y1 y2 bD ba bA bb bB
  have hfk := HF1.out.trans ((Fk.bw bC h1.out.kw).trans hq.out.2)
  go_wp2
  exact bodyPost_end (v := .tuple #[]) (by simp [results, Try.results59, go_sem]) rfl ⟨_, _, rfl, hq.out.1, hfk⟩
end Go.Proofs.Ytaidbdogolhnjaa.U
