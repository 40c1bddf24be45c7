
/- The program's copy of a state. -/
import Derived.Test.YtaidbdogolhnjaaG9
import Derived.Test.YtaidbdogolhnjaaG22
import Derived.Test.YtaidbdogolhnjaaCn
import Derived.Test.YtaidbdogolhnjaaG14
set_option linter.unusedVariables false
set_option linter.unusedSimpArgs false
namespace Go.Proofs.Ytaidbdogolhnjaa.U
open Go.RowKit Go.Lib Go.Proofs.YtaidbdogolhnjaaW.PrintWords

open Go.Proofs.YtaidbdogolhnjaaW.PrintLast Go.Proofs.YtaidbdogolhnjaaW.PrintMore
set_option maxHeartbeats 4000000 in
set_option maxRecDepth 100000 in
theorem impl_copyMesh (ro : Int) (A : Option Addr) (n c : Nat) (l : List Ce) (w : World) (r : IdR w A n l) (hn : n ≤ 1000000) :
    Calls Try.prog 53 #[.agg #[.int .i64 ro, .slice A n c]] w fun e w' => ∃ X y, e = .returned (.agg #[.int .i64 ro, .slice X n y]) ∧ FO w' w.heap.size 58 3 (.slice X n y) n (idF l) ∧ Bw w w' := by
  have b0 := (Bw.box1 w (.cells #[.int .i64 ro, .slice A n c] 26)).alloc (.cells #[.int .i64 0, .slice none 0 0] 26)
  have g0 := box_cell ((Bw.refl (w.alloc (.cells #[.int .i64 ro, .slice A n c] 26))).alloc (.cells #[.int .i64 0, .slice none 0 0] 26)) 0
  have g1 := box_cell ((Bw.refl (w.alloc (.cells #[.int .i64 ro, .slice A n c] 26))).alloc (.cells #[.int .i64 0, .slice none 0 0] 26)) 1
  simp only [List.getElem?_toArray, List.getElem?_cons_zero, List.getElem?_cons_succ] at g0 g1
  have hR := heap_alloc_new (w.alloc (.cells #[.int .i64 ro, .slice A n c] 26)) (.cells #[.int .i64 0, .slice none 0 0] 26 (0, 0))
  rw [show (w.alloc (.cells #[.int .i64 ro, .slice A n c] 26)).heap.size = w.heap.size + 1 by simp] at hR
  go_enter Try.func53, Try.ntmps53
  go_upto_region 1 with fail
  generalize ((w.alloc (.cells #[.int .i64 ro, .slice A n c] 26)).alloc (.cells #[.int .i64 0, .slice none 0 0] 26)) = W1 at *
  have bD := Bw.drawn (a := W1) ⟨⟨1, rfl⟩⟩
  refine start_ (n := 7) (S := fun w' => w'.cell? ⟨w.heap.size, 0, none⟩ = some (.int .i64 ro) ∧ w'.cell? ⟨w.heap.size, 1, none⟩ = some (.slice A n c)) (ds := [6]) #[false, false, false, false, false, false, false] (by kernel_rfl) rfl rfl ⟨g0, g1⟩ (fun hHeld => ?_)
  refine pure_ (i := 0) (N := (some 3)) (v := ?_) (a' := ?_) #[true, false, false, false, false, false, false] rfl rfl (by kernel_rfl) (fun _ _ _ h => h) (Or.inl ⟨by rfl, ?_⟩) ?_ ?_
  rotate_left
  · intro w'
    go_simp
    with_reducible rfl
  rotate_left
  · simp only [Act.put, List.setIfInBounds_toArray, List.set_cons_zero, List.set_cons_succ, i64_w, i32_w]
    rfl
  refine take_ (i := 1) (N := (some 4)) (v := ?_) (a' := ?_) #[true, true, false, false, false, false, false] rfl rfl (by kernel_rfl) (fun _ _ _ h => h) (Or.inl ⟨by rfl, ?_⟩) hHeld ?_ ?_
  rotate_left
  · rintro w' ⟨s0, s1⟩
    go_simp
    with_reducible rfl
  rotate_left
  · simp only [Act.put, List.setIfInBounds_toArray, List.set_cons_zero, List.set_cons_succ, i64_w, i32_w]
    rfl
  refine pure_ (i := 2) (N := (some 5)) (v := ?_) (a' := ?_) #[true, true, true, false, false, false, false] rfl rfl (by kernel_rfl) (fun _ _ _ h => h) (Or.inl ⟨by rfl, ?_⟩) ?_ ?_
  rotate_left
  · intro w'
    go_simp
    with_reducible rfl
  rotate_left
  · simp only [Act.put, List.setIfInBounds_toArray, List.set_cons_zero, List.set_cons_succ, i64_w, i32_w]
    rfl
  refine take_ (i := 3) (N := (some 6)) (v := ?_) (a' := ?_) #[true, true, true, true, false, false, false] rfl rfl (by kernel_rfl) (fun _ _ _ h => h) (Or.inl ⟨by rfl, ?_⟩) hHeld ?_ ?_
  rotate_left
  · rintro w' ⟨s0, s1⟩
    go_simp
    with_reducible rfl
  rotate_left
  · simp only [Act.put, List.setIfInBounds_toArray, List.set_cons_zero, List.set_cons_succ, i64_w, i32_w]
    rfl
  clear hHeld
  refine one_ (i := 4) (N := (some 7)) #[true, true, true, true, true, false, false] rfl rfl (by kernel_rfl) (by decide) (fun K hK => ?_)
  refine goes_ Try.func79 (by kernel_rfl) rfl #[.slice A n c] (by rfl) rfl rfl (by (try simp only [List.map_toArray, List.map_cons, List.map_nil]); first | done | rfl) ?_
  refine (cloneIds A n c l _ (r.to (b0.trans bD)) hn).mono ?_
  rintro e wd ⟨v, rfl, ho, bb⟩
  refine ⟨_, rfl, ?_⟩
  obtain ⟨X, y, rfl, _, _⟩ := FO.reads ho
  have bW := bD.trans bb
  refine hK.out _ _ ⟨pw_cell_below bW.out g0, pw_cell_below bW.out g1⟩ (fun _ => ?_)
  rename_i hJ_
  clear hJ_
  clear hK K
  refine norm_ (a' := ?_) ?_ ?_
  rotate_left
  · show Act.put _ (some 7) _ = _
    simp only [Act.put, List.setIfInBounds_toArray, List.set_cons_zero, List.set_cons_succ, i64_w, i32_w]
    rfl
  refine pure_ (i := 5) (N := (some 8)) (v := ?_) (a' := ?_) #[true, true, true, true, true, true, false] rfl rfl (by kernel_rfl) (fun _ _ _ h => h) (Or.inl ⟨by rfl, ?_⟩) ?_ ?_
  rotate_left
  · intro w'
    go_simp
    with_reducible rfl
  rotate_left
  · simp only [Act.put, List.setIfInBounds_toArray, List.set_cons_zero, List.set_cons_succ, i64_w, i32_w]
    rfl
  have hRk := (bW.out.block _ (blk_lt hR)).trans hR
  replace bb := b0.trans bW
  replace ho : FO wd w.heap.size 58 3 (.slice X n y) n (idF l) := FO.less ho (by have := bD.size; have := b0.size; omega)
  have s0 := (blk_cell hRk 0).trans (show _ = some (Value.int .i64 0) from rfl)
  have s1 := (blk_cell hRk 1).trans (show _ = some (Value.slice none 0 0) from rfl)
  have f0 := blk_frozen hRk 0
  have f1 := blk_frozen hRk 1
  have HF := hid (show ((wd.setCell ⟨w.heap.size + 1, 0, none⟩ (.int .i64 ro)).setCell ⟨w.heap.size + 1, 1, none⟩ (.slice X n y)).heap[w.heap.size + 1]? = some (.cells #[.int .i64 ro, .slice X n y] 26 (0, 0)) from blk_set (blk_set hRk 0 _) 1 _)
  have CF : Wi wd ((wd.setCell ⟨w.heap.size + 1, 0, none⟩ (.int .i64 ro)).setCell ⟨w.heap.size + 1, 1, none⟩ (.slice X n y)) (w.heap.size + 1) (w.heap.size + 1 + 1) := ((Wi.refl wd _ _).trans (Wi.put _ _ 0 _)).trans (Wi.put _ _ 1 _)
  have HOF := hid (FO.put ho hRk (by decide) CF)
  have HBF := hid (bb.then_wi CF (by omega))
  clear CF hRk ho bb
  refine last_ (i := 6) (N := none) #[true, true, true, true, true, true, true] rfl rfl (by kernel_rfl) (by decide) (fun K hK => ?_)
  refine skip_ (w1 := ?_) (by rfl) rfl ?_ ?_
  rotate_left
  · go_simp
    rfl
  refine hK.out _ _ ?_
  clear hK K
  refine done_ (by kernel_rfl) ?_
  go_wp2
  refine bodyPost_ret (results_cell_row rfl _ _ (w.heap.size + 1) 26 #[.int .i64 ro, .slice X n y] (0, 0) _ rfl HF.out Try.underlying26 rfl (by kernel_rfl)) rfl ?_
  exact ⟨_, _, rfl, HOF.out, HBF.out⟩
set_option maxHeartbeats 4000000 in
set_option maxRecDepth 100000 in
theorem impl_copyState (x : Value) (s : Sta) (w : World) (hx : StR w x s) (h0 : s.lv.length ≤ 1000000) (h1 : s.ms.length ≤ 1000000000) (h2 : s.ts.length ≤ 1000000000) (h3 : s.bd.length ≤ 1000000000) :
    Calls Try.prog 27 #[x] w fun e w' => ∃ v, e = .returned v ∧ StO w' w.heap.size w'.heap.size v s ∧ Bw w w' := by
  obtain ⟨A0, c0, A1, c1, A2, c2, A3, c3, rfl, r0, r1, r2, r3⟩ := hx
  have b0 := (Bw.box1 w (.cells #[.int .i64 s.ro, .slice A0 s.lv.length c0, .slice A1 s.ms.length c1, .slice A2 s.ts.length c2, .slice A3 s.bd.length c3] 29)).alloc (.cells #[.int .i64 0, .slice none 0 0, .slice none 0 0, .slice none 0 0, .slice none 0 0] 29)
  have g0 := box_cell ((Bw.refl (w.alloc (.cells #[.int .i64 s.ro, .slice A0 s.lv.length c0, .slice A1 s.ms.length c1, .slice A2 s.ts.length c2, .slice A3 s.bd.length c3] 29))).alloc (.cells #[.int .i64 0, .slice none 0 0, .slice none 0 0, .slice none 0 0, .slice none 0 0] 29)) 0
  have g1 := box_cell ((Bw.refl (w.alloc (.cells #[.int .i64 s.ro, .slice A0 s.lv.length c0, .slice A1 s.ms.length c1, .slice A2 s.ts.length c2, .slice A3 s.bd.length c3] 29))).alloc (.cells #[.int .i64 0, .slice none 0 0, .slice none 0 0, .slice none 0 0, .slice none 0 0] 29)) 1
  have g2 := box_cell ((Bw.refl (w.alloc (.cells #[.int .i64 s.ro, .slice A0 s.lv.length c0, .slice A1 s.ms.length c1, .slice A2 s.ts.length c2, .slice A3 s.bd.length c3] 29))).alloc (.cells #[.int .i64 0, .slice none 0 0, .slice none 0 0, .slice none 0 0, .slice none 0 0] 29)) 2
  have g3 := box_cell ((Bw.refl (w.alloc (.cells #[.int .i64 s.ro, .slice A0 s.lv.length c0, .slice A1 s.ms.length c1, .slice A2 s.ts.length c2, .slice A3 s.bd.length c3] 29))).alloc (.cells #[.int .i64 0, .slice none 0 0, .slice none 0 0, .slice none 0 0, .slice none 0 0] 29)) 3
  have g4 := box_cell ((Bw.refl (w.alloc (.cells #[.int .i64 s.ro, .slice A0 s.lv.length c0, .slice A1 s.ms.length c1, .slice A2 s.ts.length c2, .slice A3 s.bd.length c3] 29))).alloc (.cells #[.int .i64 0, .slice none 0 0, .slice none 0 0, .slice none 0 0, .slice none 0 0] 29)) 4
  simp only [List.getElem?_toArray, List.getElem?_cons_zero, List.getElem?_cons_succ] at g0 g1 g2 g3 g4
  have hR := heap_alloc_new (w.alloc (.cells #[.int .i64 s.ro, .slice A0 s.lv.length c0, .slice A1 s.ms.length c1, .slice A2 s.ts.length c2, .slice A3 s.bd.length c3] 29)) (.cells #[.int .i64 0, .slice none 0 0, .slice none 0 0, .slice none 0 0, .slice none 0 0] 29 (0, 0))
  rw [show (w.alloc (.cells #[.int .i64 s.ro, .slice A0 s.lv.length c0, .slice A1 s.ms.length c1, .slice A2 s.ts.length c2, .slice A3 s.bd.length c3] 29)).heap.size = w.heap.size + 1 by simp] at hR
  go_enter Try.func27, Try.ntmps27
  go_upto_region 1 with fail
  generalize ((w.alloc (.cells #[.int .i64 s.ro, .slice A0 s.lv.length c0, .slice A1 s.ms.length c1, .slice A2 s.ts.length c2, .slice A3 s.bd.length c3] 29)).alloc (.cells #[.int .i64 0, .slice none 0 0, .slice none 0 0, .slice none 0 0, .slice none 0 0] 29)) = W1 at *
  refine start_ (n := 14) (S := fun w' => w'.cell? ⟨w.heap.size, 0, none⟩ = some (.int .i64 s.ro) ∧ w'.cell? ⟨w.heap.size, 1, none⟩ = some (.slice A0 s.lv.length c0) ∧ w'.cell? ⟨w.heap.size, 2, none⟩ = some (.slice A1 s.ms.length c1) ∧ w'.cell? ⟨w.heap.size, 3, none⟩ = some (.slice A2 s.ts.length c2) ∧ w'.cell? ⟨w.heap.size, 4, none⟩ = some (.slice A3 s.bd.length c3)) (ds := [13]) #[false, false, false, false, false, false, false, false, false, false, false, false, false, false] (by kernel_rfl) rfl rfl ⟨g0, g1, g2, g3, g4⟩ (fun hHeld => ?_)
  have bD := Bw.drawn (a := W1) ⟨⟨1, rfl⟩⟩
  refine pure_ (i := 0) (N := (some 3)) (v := ?_) (a' := ?_) #[true, false, false, false, false, false, false, false, false, false, false, false, false, false] rfl rfl (by kernel_rfl) (fun _ _ _ h => h) (Or.inl ⟨by rfl, ?_⟩) ?_ ?_
  rotate_left
  · intro w'
    go_simp
    with_reducible rfl
  rotate_left
  · simp only [Act.put, List.setIfInBounds_toArray, List.set_cons_zero, List.set_cons_succ, i64_w, i32_w]
    rfl
  refine take_ (i := 1) (N := (some 4)) (v := ?_) (a' := ?_) #[true, true, false, false, false, false, false, false, false, false, false, false, false, false] rfl rfl (by kernel_rfl) (fun _ _ _ h => h) (Or.inl ⟨by rfl, ?_⟩) hHeld ?_ ?_
  rotate_left
  · rintro w' ⟨s0, s1, s2, s3, s4⟩
    go_simp
    with_reducible rfl
  rotate_left
  · simp only [Act.put, List.setIfInBounds_toArray, List.set_cons_zero, List.set_cons_succ, i64_w, i32_w]
    rfl
  refine pure_ (i := 3) (N := (some 6)) (v := ?_) (a' := ?_) #[true, true, false, true, false, false, false, false, false, false, false, false, false, false] rfl rfl (by kernel_rfl) (fun _ _ _ h => h) (Or.inl ⟨by rfl, ?_⟩) ?_ ?_
  rotate_left
  · intro w'
    go_simp
    with_reducible rfl
  rotate_left
  · simp only [Act.put, List.setIfInBounds_toArray, List.set_cons_zero, List.set_cons_succ, i64_w, i32_w]
    rfl
  refine take_ (i := 4) (N := (some 7)) (v := ?_) (a' := ?_) #[true, true, false, true, true, false, false, false, false, false, false, false, false, false] rfl rfl (by kernel_rfl) (fun _ _ _ h => h) (Or.inl ⟨by rfl, ?_⟩) hHeld ?_ ?_
  rotate_left
  · rintro w' ⟨s0, s1, s2, s3, s4⟩
    go_simp
    with_reducible rfl
  rotate_left
  · simp only [Act.put, List.setIfInBounds_toArray, List.set_cons_zero, List.set_cons_succ, i64_w, i32_w]
    rfl
  refine pure_ (i := 6) (N := (some 9)) (v := ?_) (a' := ?_) #[true, true, false, true, true, false, true, false, false, false, false, false, false, false] rfl rfl (by kernel_rfl) (fun _ _ _ h => h) (Or.inl ⟨by rfl, ?_⟩) ?_ ?_
  rotate_left
  · intro w'
    go_simp
    with_reducible rfl
  rotate_left
  · simp only [Act.put, List.setIfInBounds_toArray, List.set_cons_zero, List.set_cons_succ, i64_w, i32_w]
    rfl
  refine take_ (i := 7) (N := (some 10)) (v := ?_) (a' := ?_) #[true, true, false, true, true, false, true, true, false, false, false, false, false, false] rfl rfl (by kernel_rfl) (fun _ _ _ h => h) (Or.inl ⟨by rfl, ?_⟩) hHeld ?_ ?_
  rotate_left
  · rintro w' ⟨s0, s1, s2, s3, s4⟩
    go_simp
    with_reducible rfl
  rotate_left
  · simp only [Act.put, List.setIfInBounds_toArray, List.set_cons_zero, List.set_cons_succ, i64_w, i32_w]
    rfl
  refine pure_ (i := 9) (N := (some 12)) (v := ?_) (a' := ?_) #[true, true, false, true, true, false, true, true, false, true, false, false, false, false] rfl rfl (by kernel_rfl) (fun _ _ _ h => h) (Or.inl ⟨by rfl, ?_⟩) ?_ ?_
  rotate_left
  · intro w'
    go_simp
    with_reducible rfl
  rotate_left
  · simp only [Act.put, List.setIfInBounds_toArray, List.set_cons_zero, List.set_cons_succ, i64_w, i32_w]
    rfl
  refine take_ (i := 10) (N := (some 13)) (v := ?_) (a' := ?_) #[true, true, false, true, true, false, true, true, false, true, true, false, false, false] rfl rfl (by kernel_rfl) (fun _ _ _ h => h) (Or.inl ⟨by rfl, ?_⟩) hHeld ?_ ?_
  rotate_left
  · rintro w' ⟨s0, s1, s2, s3, s4⟩
    go_simp
    with_reducible rfl
  rotate_left
  · simp only [Act.put, List.setIfInBounds_toArray, List.set_cons_zero, List.set_cons_succ, i64_w, i32_w]
    rfl
  clear hHeld
  refine one_ (i := 2) (N := (some 5)) #[true, true, true, true, true, false, true, true, false, true, true, false, false, false] rfl rfl (by kernel_rfl) (by decide) (fun K hK => ?_)
  refine goes_ Try.func53 (by kernel_rfl) rfl #[.agg #[.int .i64 s.ro, .slice A0 s.lv.length c0]] (by rfl) rfl rfl (by (try simp only [List.map_toArray, List.map_cons, List.map_nil]); first | done | rfl) ?_
  refine (impl_copyMesh s.ro A0 s.lv.length c0 s.lv _ (r0.to (b0.trans bD)) h0).mono ?_
  rintro e wa ⟨X0, y0, rfl, o0, ba⟩
  refine ⟨_, rfl, ?_⟩
  have bA := bD.trans ba
  refine hK.out _ _ ⟨pw_cell_below bA.out g0, pw_cell_below bA.out g1, pw_cell_below bA.out g2, pw_cell_below bA.out g3, pw_cell_below bA.out g4⟩ (fun _ => ?_)
  rename_i hJ_
  clear hJ_
  clear hK K
  refine norm_ (a' := ?_) ?_ ?_
  rotate_left
  · show Act.put _ (some 5) _ = _
    simp only [Act.put, List.setIfInBounds_toArray, List.set_cons_zero, List.set_cons_succ, i64_w, i32_w]
    rfl
  refine one_ (i := 5) (N := (some 8)) #[true, true, true, true, true, true, true, true, false, true, true, false, false, false] rfl rfl (by kernel_rfl) (by decide) (fun K hK => ?_)
  refine goes_ Try.func54 (by kernel_rfl) rfl #[.slice A1 s.ms.length c1] (by rfl) rfl rfl (by (try simp only [List.map_toArray, List.map_cons, List.map_nil]); first | done | rfl) ?_
  refine (cloneInts A1 s.ms.length c1 s.ms _ (r1.to (b0.trans bA)) h1).mono ?_
  rintro e wb1 ⟨v1, rfl, q1, bb1⟩
  refine ⟨_, rfl, ?_⟩
  have o1 : FO wb1 wa.heap.size 3 1 v1 s.ms.length s.ms := ⟨q1.out⟩
  have ap01 := Apart.ofO o0 o1 (Nat.le_refl _)
  replace o0 := o0.to bb1
  obtain ⟨X1, y1, rfl, _, _⟩ := o1.reads
  have bB1 := bA.trans bb1
  refine hK.out _ _ ⟨pw_cell_below bB1.out g0, pw_cell_below bB1.out g1, pw_cell_below bB1.out g2, pw_cell_below bB1.out g3, pw_cell_below bB1.out g4⟩ (fun _ => ?_)
  rename_i hJ_
  clear hJ_
  clear hK K
  refine norm_ (a' := ?_) ?_ ?_
  rotate_left
  · show Act.put _ (some 8) _ = _
    simp only [Act.put, List.setIfInBounds_toArray, List.set_cons_zero, List.set_cons_succ, i64_w, i32_w]
    rfl
  refine one_ (i := 8) (N := (some 11)) #[true, true, true, true, true, true, true, true, true, true, true, false, false, false] rfl rfl (by kernel_rfl) (by decide) (fun K hK => ?_)
  refine goes_ Try.func54 (by kernel_rfl) rfl #[.slice A2 s.ts.length c2] (by rfl) rfl rfl (by (try simp only [List.map_toArray, List.map_cons, List.map_nil]); first | done | rfl) ?_
  refine (cloneInts A2 s.ts.length c2 s.ts _ (r2.to (b0.trans bB1)) h2).mono ?_
  rintro e wb2 ⟨v2, rfl, q2, bb2⟩
  refine ⟨_, rfl, ?_⟩
  have o2 : FO wb2 wb1.heap.size 3 1 v2 s.ts.length s.ts := ⟨q2.out⟩
  have ap02 := Apart.ofO o0 o2 (Nat.le_refl _)
  replace o0 := o0.to bb2
  have ap12 := Apart.ofO o1 o2 (Nat.le_refl _)
  replace o1 := o1.to bb2
  obtain ⟨X2, y2, rfl, _, _⟩ := o2.reads
  have bB2 := bB1.trans bb2
  refine hK.out _ _ ⟨pw_cell_below bB2.out g0, pw_cell_below bB2.out g1, pw_cell_below bB2.out g2, pw_cell_below bB2.out g3, pw_cell_below bB2.out g4⟩ (fun _ => ?_)
  rename_i hJ_
  clear hJ_
  clear hK K
  refine norm_ (a' := ?_) ?_ ?_
  rotate_left
  · show Act.put _ (some 11) _ = _
    simp only [Act.put, List.setIfInBounds_toArray, List.set_cons_zero, List.set_cons_succ, i64_w, i32_w]
    rfl
  refine one_ (i := 11) (N := (some 14)) #[true, true, true, true, true, true, true, true, true, true, true, true, false, false] rfl rfl (by kernel_rfl) (by decide) (fun K hK => ?_)
  refine goes_ Try.func54 (by kernel_rfl) rfl #[.slice A3 s.bd.length c3] (by rfl) rfl rfl (by (try simp only [List.map_toArray, List.map_cons, List.map_nil]); first | done | rfl) ?_
  refine (cloneInts A3 s.bd.length c3 s.bd _ (r3.to (b0.trans bB2)) h3).mono ?_
  rintro e wb3 ⟨v3, rfl, q3, bb3⟩
  refine ⟨_, rfl, ?_⟩
  have o3 : FO wb3 wb2.heap.size 3 1 v3 s.bd.length s.bd := ⟨q3.out⟩
  have ap03 := Apart.ofO o0 o3 (Nat.le_refl _)
  replace o0 := o0.to bb3
  have ap13 := Apart.ofO o1 o3 (Nat.le_refl _)
  replace o1 := o1.to bb3
  have ap23 := Apart.ofO o2 o3 (Nat.le_refl _)
  replace o2 := o2.to bb3
  obtain ⟨X3, y3, rfl, _, _⟩ := o3.reads
  have bB3 := bB2.trans bb3
  refine hK.out _ _ ⟨pw_cell_below bB3.out g0, pw_cell_below bB3.out g1, pw_cell_below bB3.out g2, pw_cell_below bB3.out g3, pw_cell_below bB3.out g4⟩ (fun _ => ?_)
  rename_i hJ_
  clear hJ_
  clear hK K
  refine norm_ (a' := ?_) ?_ ?_
  rotate_left
  · show Act.put _ (some 14) _ = _
    simp only [Act.put, List.setIfInBounds_toArray, List.set_cons_zero, List.set_cons_succ, i64_w, i32_w]
    rfl
  refine pure_ (i := 12) (N := (some 15)) (v := ?_) (a' := ?_) #[true, true, true, true, true, true, true, true, true, true, true, true, true, false] rfl rfl (by kernel_rfl) (fun _ _ _ h => h) (Or.inl ⟨by rfl, ?_⟩) ?_ ?_
  rotate_left
  · intro w'
    go_simp
    with_reducible rfl
  rotate_left
  · simp only [Act.put, List.setIfInBounds_toArray, List.set_cons_zero, List.set_cons_succ, i64_w, i32_w]
    rfl
  have hRk := (bB3.out.block _ (blk_lt hR)).trans hR
  have s0 := (blk_cell hRk 0).trans (show _ = some (Value.int .i64 0) from rfl)
  have f0 := blk_frozen hRk 0
  have s1 := (blk_cell hRk 1).trans (show _ = some (Value.slice none 0 0) from rfl)
  have f1 := blk_frozen hRk 1
  have s2 := (blk_cell hRk 2).trans (show _ = some (Value.slice none 0 0) from rfl)
  have f2 := blk_frozen hRk 2
  have s3 := (blk_cell hRk 3).trans (show _ = some (Value.slice none 0 0) from rfl)
  have f3 := blk_frozen hRk 3
  have s4 := (blk_cell hRk 4).trans (show _ = some (Value.slice none 0 0) from rfl)
  have f4 := blk_frozen hRk 4
  have HF := hid (show (((((wb3.setCell ⟨w.heap.size + 1, 0, none⟩ (.int .i64 s.ro)).setCell ⟨w.heap.size + 1, 1, none⟩ (.slice X0 s.lv.length y0)).setCell ⟨w.heap.size + 1, 2, none⟩ (.slice X1 s.ms.length y1)).setCell ⟨w.heap.size + 1, 3, none⟩ (.slice X2 s.ts.length y2)).setCell ⟨w.heap.size + 1, 4, none⟩ (.slice X3 s.bd.length y3)).heap[w.heap.size + 1]? = some (.cells #[.int .i64 s.ro, .slice X0 s.lv.length y0, .slice X1 s.ms.length y1, .slice X2 s.ts.length y2, .slice X3 s.bd.length y3] 29 (0, 0)) from (blk_set (blk_set (blk_set (blk_set (blk_set hRk 0 (.int .i64 s.ro)) 1 (.slice X0 s.lv.length y0)) 2 (.slice X1 s.ms.length y1)) 3 (.slice X2 s.ts.length y2)) 4 (.slice X3 s.bd.length y3)))
  have CF : Wi wb3 (((((wb3.setCell ⟨w.heap.size + 1, 0, none⟩ (.int .i64 s.ro)).setCell ⟨w.heap.size + 1, 1, none⟩ (.slice X0 s.lv.length y0)).setCell ⟨w.heap.size + 1, 2, none⟩ (.slice X1 s.ms.length y1)).setCell ⟨w.heap.size + 1, 3, none⟩ (.slice X2 s.ts.length y2)).setCell ⟨w.heap.size + 1, 4, none⟩ (.slice X3 s.bd.length y3)) (w.heap.size + 1) (w.heap.size + 1 + 1) := (((((Wi.refl wb3 (w.heap.size + 1) (w.heap.size + 1 + 1)).trans (Wi.put _ _ 0 (.int .i64 s.ro))).trans (Wi.put _ _ 1 (.slice X0 s.lv.length y0))).trans (Wi.put _ _ 2 (.slice X1 s.ms.length y1))).trans (Wi.put _ _ 3 (.slice X2 s.ts.length y2))).trans (Wi.put _ _ 4 (.slice X3 s.bd.length y3))
  have hsz := (b0.trans bD).size
  have z1 := ba.size
  have z2 := bb1.size
  have z3 := bb2.size
  have HST := hid (show StO (((((wb3.setCell ⟨w.heap.size + 1, 0, none⟩ (.int .i64 s.ro)).setCell ⟨w.heap.size + 1, 1, none⟩ (.slice X0 s.lv.length y0)).setCell ⟨w.heap.size + 1, 2, none⟩ (.slice X1 s.ms.length y1)).setCell ⟨w.heap.size + 1, 3, none⟩ (.slice X2 s.ts.length y2)).setCell ⟨w.heap.size + 1, 4, none⟩ (.slice X3 s.bd.length y3)) w.heap.size (((((wb3.setCell ⟨w.heap.size + 1, 0, none⟩ (.int .i64 s.ro)).setCell ⟨w.heap.size + 1, 1, none⟩ (.slice X0 s.lv.length y0)).setCell ⟨w.heap.size + 1, 2, none⟩ (.slice X1 s.ms.length y1)).setCell ⟨w.heap.size + 1, 3, none⟩ (.slice X2 s.ts.length y2)).setCell ⟨w.heap.size + 1, 4, none⟩ (.slice X3 s.bd.length y3)).heap.size (.agg #[.int .i64 s.ro, .slice X0 s.lv.length y0, .slice X1 s.ms.length y1, .slice X2 s.ts.length y2, .slice X3 s.bd.length y3]) s from ⟨_, _, _, _, rfl, (FO.less (FO.put o0 hRk (by decide) CF) (by omega)).rw, (FO.less (FO.put o1 hRk (by decide) CF) (by omega)).rw, (FO.less (FO.put o2 hRk (by decide) CF) (by omega)).rw, (FO.less (FO.put o3 hRk (by decide) CF) (by omega)).rw, ap01, ap02, ap03, ap12, ap13, ap23⟩)
  have HBF := hid ((b0.trans bB3).then_wi CF (by omega))
  clear CF hRk o0 o1 o2 o3 ap01 ap02 ap03 ap12 ap13 ap23 hsz z1 z2 z3
  refine last_ (i := 13) (N := none) #[true, true, true, true, true, true, true, true, true, true, true, true, true, true] rfl rfl (by kernel_rfl) (by decide) (fun K hK => ?_)
  refine skip_ (w1 := ?_) (by rfl) rfl ?_ ?_
  rotate_left
  · go_simp
    rfl
  refine hK.out _ _ ?_
  clear hK K
  refine done_ (by kernel_rfl) ?_
  go_wp2
  refine bodyPost_ret (results_cell_row rfl _ _ (w.heap.size + 1) 29 #[.int .i64 s.ro, .slice X0 s.lv.length y0, .slice X1 s.ms.length y1, .slice X2 s.ts.length y2, .slice X3 s.bd.length y3] (0, 0) _ rfl HF.out Try.underlying29 rfl (by kernel_rfl)) rfl ?_
  exact ⟨_, rfl, HST.out, HBF.out⟩
end Go.Proofs.Ytaidbdogolhnjaa.U
set_option linter.unusedVariables false
set_option linter.unusedSimpArgs false
namespace Go.Proofs.Ytaidbdogolhnjaa.U
open Go.RowKit Go.Lib Go.Proofs.YtaidbdogolhnjaaW.PrintWords

theorem stepS_len (s : Sta) (t : Int) : (stepS s t).ms.length = s.lv.length ∧ (stepS s t).ts.length = s.lv.length := by simp [stepS]
theorem StO_mono {w : World} {lo hi lo' hi' : Nat} {x : Value} {s : Sta} (h : StO w lo hi x s) (h1 : lo' ≤ lo) (h2 : hi ≤ hi') : StO w lo' hi' x s := by
  obtain ⟨vl, vm, vt, vb, rfl, h3, h4, h5, h6, ap⟩ := h
  exact ⟨vl, vm, vt, vb, rfl, h3.mono h1 h2, h4.mono h1 h2, h5.mono h1 h2, h6.mono h1 h2, ap⟩
/-- what StepState answers of a valid state -/
def tickS (s : Sta) (t : Int) : Sta := if 0 ≤ t then stepS s t else s
end Go.Proofs.Ytaidbdogolhnjaa.U
