
/- The program's copy of a state. -/
import Derived.Test.YtkendhkaheoinaaG9
import Derived.Test.YtkendhkaheoinaaG22
import Derived.Test.YtkendhkaheoinaaCn
import Derived.Test.YtkendhkaheoinaaG14
set_option linter.unusedVariables false
set_option linter.unusedSimpArgs false
namespace Go.Proofs.Ytkendhkaheoinaa.U
open Go.RowKit Go.Lib Go.Proofs.YtkendhkaheoinaaW.PrintWords
open Go.Proofs.YtkendhkaheoinaaW.PrintLast Go.Proofs.YtkendhkaheoinaaW.PrintMore
set_option maxHeartbeats 4000000 in
set_option maxRecDepth 100000 in
theorem impl_copyMesh (ro : Int) (A : Option Addr) (n c : Nat) (l : List Ce) (w : World) (r : IdR w A n l) (hn : n ≤ 1000000) :
  Calls Try.prog 56 #[.agg #[.int .i64 ro, .slice A n c]] w fun e w' => ∃ X y, e = .returned (.agg #[.int .i64 ro, .slice X n y]) ∧ FO w' w.heap.size 72 3 (.slice X n y) n (idF l) ∧ Bw w w' := by
 have b0 := (Bw.box1 w (.cells #[.int .i64 ro, .slice A n c] 26)).alloc (.cells #[.int .i64 0, .slice none 0 0] 26)
 have g0 := box_cell ((Bw.refl (w.alloc (.cells #[.int .i64 ro, .slice A n c] 26))).alloc (.cells #[.int .i64 0, .slice none 0 0] 26)) 0
 have g1 := box_cell ((Bw.refl (w.alloc (.cells #[.int .i64 ro, .slice A n c] 26))).alloc (.cells #[.int .i64 0, .slice none 0 0] 26)) 1
 simp only [List.getElem?_toArray, List.getElem?_cons_zero, List.getElem?_cons_succ] at g0 g1
 have hR := heap_alloc_new (w.alloc (.cells #[.int .i64 ro, .slice A n c] 26)) (.cells #[.int .i64 0, .slice none 0 0] 26 (0, 0))
 rw [show (w.alloc (.cells #[.int .i64 ro, .slice A n c] 26)).heap.size = w.heap.size + 1 by simp] at hR
 go_enter Try.func56, Try.ntmps56
 go_upto_region 1 with fail
 generalize ((w.alloc (.cells #[.int .i64 ro, .slice A n c] 26)).alloc (.cells #[.int .i64 0, .slice none 0 0] 26)) = W1 at *
 have bD := Bw.drawn (a := W1) ⟨⟨1, rfl⟩⟩
 refine start_ (n := 7) (S := fun w' => w'.cell? ⟨w.heap.size, 0, none⟩ = some (.int .i64 ro) ∧ w'.cell? ⟨w.heap.size, 1, none⟩ = some (.slice A n c)) (ds := [6]) #[false, false, false, false, false, false, false] (by kernel_rfl) rfl rfl ⟨g0, g1⟩ (fun hHeld => ?_)
 refine pq_ (i := 0) (N := (some 3)) (v := ?_) (a' := ?_) rfl rfl (by kernel_rfl) (fun _ _ _ h => h) (Or.inl ⟨by rfl, ?_⟩) ?_ ?_
 rotate_left; (intro w'; go_simp; with_reducible rfl); rotate_left; (simp only [Act.put, s1_, s2_, s3_, i64_w, i32_w]; rfl)
 refine tq_ (i := 1) (N := (some 4)) (v := ?_) (a' := ?_) rfl rfl (by kernel_rfl) (fun _ _ _ h => h) (Or.inl ⟨by rfl, ?_⟩) hHeld ?_ ?_
 rotate_left; (rintro w' ⟨s0, s1⟩; go_simp; with_reducible rfl); rotate_left; (simp only [Act.put, s1_, s2_, s3_, i64_w, i32_w]; rfl)
 refine pq_ (i := 2) (N := (some 5)) (v := ?_) (a' := ?_) rfl rfl (by kernel_rfl) (fun _ _ _ h => h) (Or.inl ⟨by rfl, ?_⟩) ?_ ?_
 rotate_left; (intro w'; go_simp; with_reducible rfl); rotate_left; (simp only [Act.put, s1_, s2_, s3_, i64_w, i32_w]; rfl)
 refine tq_ (i := 3) (N := (some 6)) (v := ?_) (a' := ?_) rfl rfl (by kernel_rfl) (fun _ _ _ h => h) (Or.inl ⟨by rfl, ?_⟩) hHeld ?_ ?_
 rotate_left; (rintro w' ⟨s0, s1⟩; go_simp; with_reducible rfl); rotate_left; (simp only [Act.put, s1_, s2_, s3_, i64_w, i32_w]; rfl)
 clear hHeld
 refine one_ (i := 4) (N := (some 7)) #[true, true, true, true, true, false, false] rfl rfl (by kernel_rfl) (by decide) (fun K hK => ?_)
 refine goes_ Try.func86 (by kernel_rfl) rfl #[.slice A n c] (by rfl) rfl rfl (by (try simp only [List.map_toArray, List.map_cons, List.map_nil]); first | done | rfl) ?_
 refine (cloneIds A n c l _ (r.to (b0.trans bD)) hn).mono ?_
 rintro e wd ⟨v, rfl, ho, bb⟩
 refine ⟨_, rfl, ?_⟩
 obtain ⟨X, y, rfl, _, _⟩ := FO.reads ho
 have bW := bD.trans bb
 refine hK.out _ _ ⟨pw_cell_below bW.out g0, pw_cell_below bW.out g1⟩ (fun _ => ?_)
 rename_i hJ_
 clear hJ_
 clear hK K; refine norm_ (a' := ?_) ?_ ?_; rotate_left; (show Act.put _ (some 7) _ = _; simp only [Act.put, s1_, s2_, s3_, i64_w, i32_w]; rfl)
 refine pq_ (i := 5) (N := (some 8)) (v := ?_) (a' := ?_) rfl rfl (by kernel_rfl) (fun _ _ _ h => h) (Or.inl ⟨by rfl, ?_⟩) ?_ ?_
 rotate_left; (intro w'; go_simp; with_reducible rfl); rotate_left; (simp only [Act.put, s1_, s2_, s3_, i64_w, i32_w]; rfl)
 have hRk := (bW.out.block _ (blk_lt hR)).trans hR
 replace bb := b0.trans bW
 replace ho : FO wd w.heap.size 72 3 (.slice X n y) n (idF l) := FO.less ho (by have := bD.size; have := b0.size; omega)
 have s0 := (blk_cell hRk 0).trans (show _ = some (Value.int .i64 0) from rfl)
 have s1 := (blk_cell hRk 1).trans (show _ = some (Value.slice none 0 0) from rfl)
 have f0 := blk_frozen hRk 0
 have f1 := blk_frozen hRk 1
 have HF := hid (show ((wd.setCell ⟨w.heap.size + 1, 0, none⟩ (.int .i64 ro)).setCell ⟨w.heap.size + 1, 1, none⟩ (.slice X n y)).heap[w.heap.size + 1]? = some (.cells #[.int .i64 ro, .slice X n y] 26 (0, 0)) from blk_set (blk_set hRk 0 _) 1 _)
 have CF : Wi wd ((wd.setCell ⟨w.heap.size + 1, 0, none⟩ (.int .i64 ro)).setCell ⟨w.heap.size + 1, 1, none⟩ (.slice X n y)) (w.heap.size + 1) (w.heap.size + 1 + 1) := ((Wi.refl wd _ _).trans (Wi.put _ _ 0 _)).trans (Wi.put _ _ 1 _)
 have HOF := hid (FO.put ho hRk (by decide) CF)
 have HBF := hid (bb.then_wi CF (by omega))
 clear CF hRk ho bb
 refine last_ (i := 6) (N := none) #[true, true, true, true, true, true, true] rfl rfl (by kernel_rfl) (by decide) (fun K hK => ?_)
 refine skip_ (w1 := ?_) (by rfl) rfl ?_ ?_
 rotate_left
 ·go_simp
  rfl
 refine hK.out _ _ ?_
 clear hK K
 refine done_ (by kernel_rfl) ?_
 go_wp2
 refine bodyPost_ret (results_cell_row rfl _ _ (w.heap.size + 1) 26 #[.int .i64 ro, .slice X n y] (0, 0) _ rfl HF.out Try.underlying26 rfl (by kernel_rfl)) rfl ?_
 exact ⟨_, _, rfl, HOF.out, HBF.out⟩
set_option maxHeartbeats 4000000 in
set_option maxRecDepth 100000 in
theorem impl_copyState (x : Value) (s : Sta) (w : World) (hx : StR w x s) (h0 : s.lv.length ≤ 1000000) (h1 : s.ms.length ≤ 1000000000) (h2 : s.ts.length ≤ 1000000000) (h3 : s.bd.length ≤ 1000000000) :
  Calls Try.prog 24 #[x] w fun e w' => ∃ v, e = .returned v ∧ StO w' w.heap.size w'.heap.size v s ∧ Bw w w' := by
 obtain ⟨A0, c0, A1, c1, A2, c2, A3, c3, rfl, r0, r1, r2, r3⟩ := hx
 have b0 := (Bw.box1 w (.cells #[.int .i64 s.ro, .slice A0 s.lv.length c0, .slice A1 s.ms.length c1, .slice A2 s.ts.length c2, .slice A3 s.bd.length c3] 29)).alloc (.cells #[.int .i64 0, .slice none 0 0, .slice none 0 0, .slice none 0 0, .slice none 0 0] 29)
 have g0 := box_cell ((Bw.refl (w.alloc (.cells #[.int .i64 s.ro, .slice A0 s.lv.length c0, .slice A1 s.ms.length c1, .slice A2 s.ts.length c2, .slice A3 s.bd.length c3] 29))).alloc (.cells #[.int .i64 0, .slice none 0 0, .slice none 0 0, .slice none 0 0, .slice none 0 0] 29)) 0
 have g1 := box_cell ((Bw.refl (w.alloc (.cells #[.int .i64 s.ro, .slice A0 s.lv.length c0, .slice A1 s.ms.length c1, .slice A2 s.ts.length c2, .slice A3 s.bd.length c3] 29))).alloc (.cells #[.int .i64 0, .slice none 0 0, .slice none 0 0, .slice none 0 0, .slice none 0 0] 29)) 1
 have g2 := box_cell ((Bw.refl (w.alloc (.cells #[.int .i64 s.ro, .slice A0 s.lv.length c0, .slice A1 s.ms.length c1, .slice A2 s.ts.length c2, .slice A3 s.bd.length c3] 29))).alloc (.cells #[.int .i64 0, .slice none 0 0, .slice none 0 0, .slice none 0 0, .slice none 0 0] 29)) 2
 have g3 := box_cell ((Bw.refl (w.alloc (.cells #[.int .i64 s.ro, .slice A0 s.lv.length c0, .slice A1 s.ms.length c1, .slice A2 s.ts.length c2, .slice A3 s.bd.length c3] 29))).alloc (.cells #[.int .i64 0, .slice none 0 0, .slice none 0 0, .slice none 0 0, .slice none 0 0] 29)) 3
 have g4 := box_cell ((Bw.refl (w.alloc (.cells #[.int .i64 s.ro, .slice A0 s.lv.length c0, .slice A1 s.ms.length c1, .slice A2 s.ts.length c2, .slice A3 s.bd.length c3] 29))).alloc (.cells #[.int .i64 0, .slice none 0 0, .slice none 0 0, .slice none 0 0, .slice none 0 0] 29)) 4
 simp only [List.getElem?_toArray, List.getElem?_cons_zero, List.getElem?_cons_succ] at g0 g1 g2 g3 g4
 have hR := heap_alloc_new (w.alloc (.cells #[.int .i64 s.ro, .slice A0 s.lv.length c0, .slice A1 s.ms.length c1, .slice A2 s.ts.length c2, .slice A3 s.bd.length c3] 29)) (.cells #[.int .i64 0, .slice none 0 0, .slice none 0 0, .slice none 0 0, .slice none 0 0] 29 (0, 0))
 rw [show (w.alloc (.cells #[.int .i64 s.ro, .slice A0 s.lv.length c0, .slice A1 s.ms.length c1, .slice A2 s.ts.length c2, .slice A3 s.bd.length c3] 29)).heap.size = w.heap.size + 1 by simp] at hR
 go_enter Try.func24, Try.ntmps24
 go_upto_region 1 with fail
 generalize ((w.alloc (.cells #[.int .i64 s.ro, .slice A0 s.lv.length c0, .slice A1 s.ms.length c1, .slice A2 s.ts.length c2, .slice A3 s.bd.length c3] 29)).alloc (.cells #[.int .i64 0, .slice none 0 0, .slice none 0 0, .slice none 0 0, .slice none 0 0] 29)) = W1 at *
 refine start_ (n := 14) (S := fun w' => w'.cell? ⟨w.heap.size, 0, none⟩ = some (.int .i64 s.ro) ∧ w'.cell? ⟨w.heap.size, 1, none⟩ = some (.slice A0 s.lv.length c0) ∧ w'.cell? ⟨w.heap.size, 2, none⟩ = some (.slice A1 s.ms.length c1) ∧ w'.cell? ⟨w.heap.size, 3, none⟩ = some (.slice A2 s.ts.length c2) ∧ w'.cell? ⟨w.heap.size, 4, none⟩ = some (.slice A3 s.bd.length c3)) (ds := [13]) #[false, false, false, false, false, false, false, false, false, false, false, false, false, false] (by kernel_rfl) rfl rfl ⟨g0, g1, g2, g3, g4⟩ (fun hHeld => ?_)
 have bD := Bw.drawn (a := W1) ⟨⟨1, rfl⟩⟩
 refine pq_ (i := 0) (N := (some 3)) (v := ?_) (a' := ?_) rfl rfl (by kernel_rfl) (fun _ _ _ h => h) (Or.inl ⟨by rfl, ?_⟩) ?_ ?_
 rotate_left; (intro w'; go_simp; with_reducible rfl); rotate_left; (simp only [Act.put, s1_, s2_, s3_, i64_w, i32_w]; rfl)
 refine tq_ (i := 1) (N := (some 4)) (v := ?_) (a' := ?_) rfl rfl (by kernel_rfl) (fun _ _ _ h => h) (Or.inl ⟨by rfl, ?_⟩) hHeld ?_ ?_
 rotate_left; (rintro w' ⟨s0, s1, s2, s3, s4⟩; go_simp; with_reducible rfl); rotate_left; (simp only [Act.put, s1_, s2_, s3_, i64_w, i32_w]; rfl)
 refine pq_ (i := 3) (N := (some 6)) (v := ?_) (a' := ?_) rfl rfl (by kernel_rfl) (fun _ _ _ h => h) (Or.inl ⟨by rfl, ?_⟩) ?_ ?_
 rotate_left; (intro w'; go_simp; with_reducible rfl); rotate_left; (simp only [Act.put, s1_, s2_, s3_, i64_w, i32_w]; rfl)
 refine tq_ (i := 4) (N := (some 7)) (v := ?_) (a' := ?_) rfl rfl (by kernel_rfl) (fun _ _ _ h => h) (Or.inl ⟨by rfl, ?_⟩) hHeld ?_ ?_
 rotate_left; (rintro w' ⟨s0, s1, s2, s3, s4⟩; go_simp; with_reducible rfl); rotate_left; (simp only [Act.put, s1_, s2_, s3_, i64_w, i32_w]; rfl)
 refine pq_ (i := 6) (N := (some 9)) (v := ?_) (a' := ?_) rfl rfl (by kernel_rfl) (fun _ _ _ h => h) (Or.inl ⟨by rfl, ?_⟩) ?_ ?_
 rotate_left; (intro w'; go_simp; with_reducible rfl); rotate_left; (simp only [Act.put, s1_, s2_, s3_, i64_w, i32_w]; rfl)
 refine tq_ (i := 7) (N := (some 10)) (v := ?_) (a' := ?_) rfl rfl (by kernel_rfl) (fun _ _ _ h => h) (Or.inl ⟨by rfl, ?_⟩) hHeld ?_ ?_
 rotate_left; (rintro w' ⟨s0, s1, s2, s3, s4⟩; go_simp; with_reducible rfl); rotate_left; (simp only [Act.put, s1_, s2_, s3_, i64_w, i32_w]; rfl)
 refine pq_ (i := 9) (N := (some 12)) (v := ?_) (a' := ?_) rfl rfl (by kernel_rfl) (fun _ _ _ h => h) (Or.inl ⟨by rfl, ?_⟩) ?_ ?_
 rotate_left; (intro w'; go_simp; with_reducible rfl); rotate_left; (simp only [Act.put, s1_, s2_, s3_, i64_w, i32_w]; rfl)
 refine tq_ (i := 10) (N := (some 13)) (v := ?_) (a' := ?_) rfl rfl (by kernel_rfl) (fun _ _ _ h => h) (Or.inl ⟨by rfl, ?_⟩) hHeld ?_ ?_
 rotate_left; (rintro w' ⟨s0, s1, s2, s3, s4⟩; go_simp; with_reducible rfl); rotate_left; (simp only [Act.put, s1_, s2_, s3_, i64_w, i32_w]; rfl)
 clear hHeld
 refine one_ (i := 2) (N := (some 5)) #[true, true, true, true, true, false, true, true, false, true, true, false, false, false] rfl rfl (by kernel_rfl) (by decide) (fun K hK => ?_)
 refine goes_ Try.func56 (by kernel_rfl) rfl #[.agg #[.int .i64 s.ro, .slice A0 s.lv.length c0]] (by rfl) rfl rfl (by (try simp only [List.map_toArray, List.map_cons, List.map_nil]); first | done | rfl) ?_
 refine (impl_copyMesh s.ro A0 s.lv.length c0 s.lv _ (r0.to (b0.trans bD)) h0).mono ?_
 rintro e wa ⟨X0, y0, rfl, o0, ba⟩
 refine ⟨_, rfl, ?_⟩
 have bA := bD.trans ba
 refine hK.out _ _ ⟨pw_cell_below bA.out g0, pw_cell_below bA.out g1, pw_cell_below bA.out g2, pw_cell_below bA.out g3, pw_cell_below bA.out g4⟩ (fun _ => ?_)
 rename_i hJ_
 clear hJ_
 clear hK K; refine norm_ (a' := ?_) ?_ ?_; rotate_left; (show Act.put _ (some 5) _ = _; simp only [Act.put, s1_, s2_, s3_, i64_w, i32_w]; rfl)
 refine one_ (i := 5) (N := (some 8)) #[true, true, true, true, true, true, true, true, false, true, true, false, false, false] rfl rfl (by kernel_rfl) (by decide) (fun K hK => ?_)
 refine goes_ Try.func57 (by kernel_rfl) rfl #[.slice A1 s.ms.length c1] (by rfl) rfl rfl (by (try simp only [List.map_toArray, List.map_cons, List.map_nil]); first | done | rfl) ?_
 refine (cloneInts A1 s.ms.length c1 s.ms _ (r1.to (b0.trans bA)) h1).mono ?_
 rintro e wb1 ⟨v1, rfl, q1, bb1⟩
 refine ⟨_, rfl, ?_⟩
 have o1 : FO wb1 wa.heap.size 3 1 v1 s.ms.length s.ms := ⟨q1.out⟩
 have ap01 := Apart.ofO o0 o1 (Nat.le_refl _)
 replace o0 := o0.to bb1
 obtain ⟨X1, y1, rfl, _, _⟩ := o1.reads
 have bB1 := bA.trans bb1
 refine hK.out _ _ ⟨pw_cell_below bB1.out g0, pw_cell_below bB1.out g1, pw_cell_below bB1.out g2, pw_cell_below bB1.out g3, pw_cell_below bB1.out g4⟩ (fun _ => ?_)
 rename_i hJ_
 clear hJ_
 clear hK K; refine norm_ (a' := ?_) ?_ ?_; rotate_left; (show Act.put _ (some 8) _ = _; simp only [Act.put, s1_, s2_, s3_, i64_w, i32_w]; rfl)
 refine one_ (i := 8) (N := (some 11)) #[true, true, true, true, true, true, true, true, true, true, true, false, false, false] rfl rfl (by kernel_rfl) (by decide) (fun K hK => ?_)
 refine goes_ Try.func57 (by kernel_rfl) rfl #[.slice A2 s.ts.length c2] (by rfl) rfl rfl (by (try simp only [List.map_toArray, List.map_cons, List.map_nil]); first | done | rfl) ?_
 refine (cloneInts A2 s.ts.length c2 s.ts _ (r2.to (b0.trans bB1)) h2).mono ?_
 rintro e wb2 ⟨v2, rfl, q2, bb2⟩
 refine ⟨_, rfl, ?_⟩
 have o2 : FO wb2 wb1.heap.size 3 1 v2 s.ts.length s.ts := ⟨q2.out⟩
 have ap02 := Apart.ofO o0 o2 (Nat.le_refl _)
 replace o0 := o0.to bb2
 have ap12 := Apart.ofO o1 o2 (Nat.le_refl _)
 replace o1 := o1.to bb2
 obtain ⟨X2, y2, rfl, _, _⟩ := o2.reads
 have bB2 := bB1.trans bb2
 refine hK.out _ _ ⟨pw_cell_below bB2.out g0, pw_cell_below bB2.out g1, pw_cell_below bB2.out g2, pw_cell_below bB2.out g3, pw_cell_below bB2.out g4⟩ (fun _ => ?_)
 rename_i hJ_
 clear hJ_
 clear hK K; refine norm_ (a' := ?_) ?_ ?_; rotate_left; (show Act.put _ (some 11) _ = _; simp only [Act.put, s1_, s2_, s3_, i64_w, i32_w]; rfl)
 refine one_ (i := 11) (N := (some 14)) #[true, true, true, true, true, true, true, true, true, true, true, true, false, false] rfl rfl (by kernel_rfl) (by decide) (fun K hK => ?_)
 refine goes_ Try.func57 (by kernel_rfl) rfl #[.slice A3 s.bd.length c3] (by rfl) rfl rfl (by (try simp only [List.map_toArray, List.map_cons, List.map_nil]); first | done | rfl) ?_
 refine (cloneInts A3 s.bd.length c3 s.bd _ (r3.to (b0.trans bB2)) h3).mono ?_
 rintro e wb3 ⟨v3, rfl, q3, bb3⟩
 refine ⟨_, rfl, ?_⟩
 have o3 : FO wb3 wb2.heap.size 3 1 v3 s.bd.length s.bd := ⟨q3.out⟩
 have ap03 := Apart.ofO o0 o3 (Nat.le_refl _)
 replace o0 := o0.to bb3
 have ap13 := Apart.ofO o1 o3 (Nat.le_refl _)
 replace o1 := o1.to bb3
 have ap23 := Apart.ofO o2 o3 (Nat.le_refl _)
 replace o2 := o2.to bb3
 obtain ⟨X3, y3, rfl, _, _⟩ := o3.reads
 have bB3 := bB2.trans bb3
 refine hK.out _ _ ⟨pw_cell_below bB3.out g0, pw_cell_below bB3.out g1, pw_cell_below bB3.out g2, pw_cell_below bB3.out g3, pw_cell_below bB3.out g4⟩ (fun _ => ?_)
 rename_i hJ_
 clear hJ_
 clear hK K; refine norm_ (a' := ?_) ?_ ?_; rotate_left; (show Act.put _ (some 14) _ = _; simp only [Act.put, s1_, s2_, s3_, i64_w, i32_w]; rfl)
 refine pq_ (i := 12) (N := (some 15)) (v := ?_) (a' := ?_) rfl rfl (by kernel_rfl) (fun _ _ _ h => h) (Or.inl ⟨by rfl, ?_⟩) ?_ ?_
 rotate_left; (intro w'; go_simp; with_reducible rfl); rotate_left; (simp only [Act.put, s1_, s2_, s3_, i64_w, i32_w]; rfl)
 have hRk := (bB3.out.block _ (blk_lt hR)).trans hR
 have s0 := (blk_cell hRk 0).trans (show _ = some (Value.int .i64 0) from rfl)
 have f0 := blk_frozen hRk 0
 have s1 := (blk_cell hRk 1).trans (show _ = some (Value.slice none 0 0) from rfl)
 have f1 := blk_frozen hRk 1
 have s2 := (blk_cell hRk 2).trans (show _ = some (Value.slice none 0 0) from rfl)
 have f2 := blk_frozen hRk 2
 have s3 := (blk_cell hRk 3).trans (show _ = some (Value.slice none 0 0) from rfl)
 have f3 := blk_frozen hRk 3
 have s4 := (blk_cell hRk 4).trans (show _ = some (Value.slice none 0 0) from rfl)
 have f4 := blk_frozen hRk 4
 have HF := hid (show (((((wb3.setCell ⟨w.heap.size + 1, 0, none⟩ (.int .i64 s.ro)).setCell ⟨w.heap.size + 1, 1, none⟩ (.slice X0 s.lv.length y0)).setCell ⟨w.heap.size + 1, 2, none⟩ (.slice X1 s.ms.length y1)).setCell ⟨w.heap.size + 1, 3, none⟩ (.slice X2 s.ts.length y2)).setCell ⟨w.heap.size + 1, 4, none⟩ (.slice X3 s.bd.length y3)).heap[w.heap.size + 1]? = some (.cells #[.int .i64 s.ro, .slice X0 s.lv.length y0, .slice X1 s.ms.length y1, .slice X2 s.ts.length y2, .slice X3 s.bd.length y3] 29 (0, 0)) from (blk_set (blk_set (blk_set (blk_set (blk_set hRk 0 (.int .i64 s.ro)) 1 (.slice X0 s.lv.length y0)) 2 (.slice X1 s.ms.length y1)) 3 (.slice X2 s.ts.length y2)) 4 (.slice X3 s.bd.length y3)))
 have CF : Wi wb3 (((((wb3.setCell ⟨w.heap.size + 1, 0, none⟩ (.int .i64 s.ro)).setCell ⟨w.heap.size + 1, 1, none⟩ (.slice X0 s.lv.length y0)).setCell ⟨w.heap.size + 1, 2, none⟩ (.slice X1 s.ms.length y1)).setCell ⟨w.heap.size + 1, 3, none⟩ (.slice X2 s.ts.length y2)).setCell ⟨w.heap.size + 1, 4, none⟩ (.slice X3 s.bd.length y3)) (w.heap.size + 1) (w.heap.size + 1 + 1) := (((((Wi.refl wb3 (w.heap.size + 1) (w.heap.size + 1 + 1)).trans (Wi.put _ _ 0 (.int .i64 s.ro))).trans (Wi.put _ _ 1 (.slice X0 s.lv.length y0))).trans (Wi.put _ _ 2 (.slice X1 s.ms.length y1))).trans (Wi.put _ _ 3 (.slice X2 s.ts.length y2))).trans (Wi.put _ _ 4 (.slice X3 s.bd.length y3))
 have hsz := (b0.trans bD).size
 have z1 := ba.size
 have z2 := bb1.size
 have z3 := bb2.size
 have HST := hid (show StO (((((wb3.setCell ⟨w.heap.size + 1, 0, none⟩ (.int .i64 s.ro)).setCell ⟨w.heap.size + 1, 1, none⟩ (.slice X0 s.lv.length y0)).setCell ⟨w.heap.size + 1, 2, none⟩ (.slice X1 s.ms.length y1)).setCell ⟨w.heap.size + 1, 3, none⟩ (.slice X2 s.ts.length y2)).setCell ⟨w.heap.size + 1, 4, none⟩ (.slice X3 s.bd.length y3)) w.heap.size (((((wb3.setCell ⟨w.heap.size + 1, 0, none⟩ (.int .i64 s.ro)).setCell ⟨w.heap.size + 1, 1, none⟩ (.slice X0 s.lv.length y0)).setCell ⟨w.heap.size + 1, 2, none⟩ (.slice X1 s.ms.length y1)).setCell ⟨w.heap.size + 1, 3, none⟩ (.slice X2 s.ts.length y2)).setCell ⟨w.heap.size + 1, 4, none⟩ (.slice X3 s.bd.length y3)).heap.size (.agg #[.int .i64 s.ro, .slice X0 s.lv.length y0, .slice X1 s.ms.length y1, .slice X2 s.ts.length y2, .slice X3 s.bd.length y3]) s from ⟨_, _, _, _, rfl, (FO.less (FO.put o0 hRk (by decide) CF) (by omega)).rw, (FO.less (FO.put o1 hRk (by decide) CF) (by omega)).rw, (FO.less (FO.put o2 hRk (by decide) CF) (by omega)).rw, (FO.less (FO.put o3 hRk (by decide) CF) (by omega)).rw, ap01, ap02, ap03, ap12, ap13, ap23⟩)
 have HBF := hid ((b0.trans bB3).then_wi CF (by omega))
 clear CF hRk o0 o1 o2 o3 ap01 ap02 ap03 ap12 ap13 ap23 hsz z1 z2 z3
 refine last_ (i := 13) (N := none) #[true, true, true, true, true, true, true, true, true, true, true, true, true, true] rfl rfl (by kernel_rfl) (by decide) (fun K hK => ?_)
 refine skip_ (w1 := ?_) (by rfl) rfl ?_ ?_
 rotate_left
 ·go_simp
  rfl
 refine hK.out _ _ ?_
 clear hK K
 refine done_ (by kernel_rfl) ?_
 go_wp2
 refine bodyPost_ret (results_cell_row rfl _ _ (w.heap.size + 1) 29 #[.int .i64 s.ro, .slice X0 s.lv.length y0, .slice X1 s.ms.length y1, .slice X2 s.ts.length y2, .slice X3 s.bd.length y3] (0, 0) _ rfl HF.out Try.underlying29 rfl (by kernel_rfl)) rfl ?_
 exact ⟨_, rfl, HST.out, HBF.out⟩
end Go.Proofs.Ytkendhkaheoinaa.U
set_option linter.unusedVariables false
set_option linter.unusedSimpArgs false
namespace Go.Proofs.Ytkendhkaheoinaa.U
open Go.RowKit Go.Lib Go.Proofs.YtkendhkaheoinaaW.PrintWords
theorem stepS_len (s : Sta) (t : Int) : (stepS s t).ms.length = s.lv.length ∧ (stepS s t).ts.length = s.lv.length := by simp [stepS]
theorem StO_mono {w : World} {lo hi lo' hi' : Nat} {x : Value} {s : Sta} (h : StO w lo hi x s) (h1 : lo' ≤ lo) (h2 : hi ≤ hi') : StO w lo' hi' x s := by
 obtain ⟨vl, vm, vt, vb, rfl, h3, h4, h5, h6, ap⟩ := h
 exact ⟨vl, vm, vt, vb, rfl, h3.mono h1 h2, h4.mono h1 h2, h5.mono h1 h2, h6.mono h1 h2, ap⟩
theorem move_StO (P lo hi : Nat) (s : Sta) (t : Int) (vl vm vt vb : Value) (F : Option Addr) (nf cf : Nat) (w : World) (hP : w.heap[P]? = some (.cells #[.int .i64 s.ro, vl, vm, vt, vb] 29 (0, 0))) (hs : StG s)
  (hO : StO w lo hi (.agg #[.int .i64 s.ro, vl, vm, vt, vb]) s) (hhi : hi ≤ w.heap.size) (rf : RI w F nf (actTo s.lv t (s.lv.length - 1))) :
  Calls Try.prog 27 #[.pointer (some ⟨P, 0, none⟩), .slice F nf cf] w fun e w' => ∃ u, e = .returned u ∧ w'.heap[P]? = some (.cells #[.int .i64 s.ro, vl, vm, vt, vb] 29 (0, 0)) ∧ StO w' lo hi (.agg #[.int .i64 s.ro, vl, vm, vt, vb]) (stepS s t) ∧ Wi w w' lo hi := by
 obtain ⟨vl', vm', vt', vb', e, hl, hm, ht, hb, ap⟩ := hO
 simp only [Value.agg.injEq, Array.mk.injEq, List.cons.injEq, and_true, true_and] at e
 obtain ⟨rfl, rfl, rfl, rfl⟩ := e
 obtain ⟨Al, cl, rfl, _, fl_⟩ := hl.reads
 obtain ⟨Ab, cb, rfl, _, fb_⟩ := hb.reads
 obtain ⟨Am, cm, rfl, _, _⟩ := hm.reads
 obtain ⟨At, ct, rfl, _, _⟩ := ht.reads
 have hn0 := hs.one
 have hms := hs.f.ms
 have hts := hs.f.ts
 rw [hms] at hm hP
 rw [hts] at ht hP
 rw [hms, hts] at ap ⊢
 obtain ⟨gm, rfl, hgm, hgm2, em⟩ := FO.form hm.o hn0
 obtain ⟨gt, rfl, hgt, hgt2, et⟩ := FO.form ht.o hn0
 have hne : gm ≠ gt := by
  rcases ap.2.2.2.1 with e | e
  ·simp [Value.ownBlock] at e
  ·simpa [Value.ownBlock] using e
 refine (impl_move P lo hi s t s.lv.length gm gt cl cm ct cb Al Ab F nf cf _ w hP hs rfl fl_.id hm.oi ht.oi fb_.ri ⟨hgm, hm.b gm rfl⟩ ⟨hgt, ht.b gt rfl⟩ hne hhi rf rfl).mono ?_
 rintro e w' ⟨u, rfl, w3, b, z, om, ot⟩
 refine ⟨u, rfl, ?_, ⟨_, _, _, _, rfl, ⟨⟨own_move (hl.to b).o.out fun q hq => z.block q (fun e => ?_) (fun e => ?_)⟩, hl.b⟩, ⟨⟨by rw [(stepS_len s t).1]; exact om.out⟩, hm.b⟩, ⟨⟨by rw [(stepS_len s t).2]; exact ot.out⟩, ht.b⟩, ⟨⟨own_move (hb.to b).o.out fun q hq => z.block q (fun e => ?_) (fun e => ?_)⟩, hb.b⟩, ap⟩, ?_⟩
 ·have h1 := (b.out.block P (blk_lt hP)).trans hP
  exact (z.block P (fun e => own_ne (hm.to b).o.out h1 (by decide) (by rw [e]; rfl)) (fun e => own_ne (ht.to b).o.out h1 (by decide) (by rw [e]; rfl))).trans h1
 ·rcases ap.1 with h | h
  ·rw [h] at hq; cases hq
  ·exact h (by rw [hq, e]; rfl)
 ·rcases ap.2.1 with h | h
  ·rw [h] at hq; cases hq
  ·exact h (by rw [hq, e]; rfl)
 ·rcases ap.2.2.2.2.1 with h | h
  ·simp [Value.ownBlock] at h
  ·exact h (by rw [hq, e]; rfl)
 ·rcases ap.2.2.2.2.2 with h | h
  ·simp [Value.ownBlock] at h
  ·exact h (by rw [hq, e]; rfl)
 ·refine (b.wi lo hi).trans ⟨z.os, z.tape, z.output, by rw [z.size]; exact Nat.le_refl _, fun k _ hk => z.block k (fun e => hk ?_) (fun e => hk ?_)⟩
  ·have := hm.b gm rfl; omega
  ·have := ht.b gt rfl; omega
end Go.Proofs.Ytkendhkaheoinaa.U
set_option linter.unusedVariables false
set_option linter.unusedSimpArgs false
namespace Go.Proofs.Ytkendhkaheoinaa.U
open Go.RowKit Go.Lib Go.Proofs.YtkendhkaheoinaaW.PrintWords
theorem leaf_share {tr m r l : Int} (hm : 0 ≤ m) (ht : 0 ≤ tr ∧ tr ≤ 1000 * m) (hr : 0 ≤ r) (hl : 0 ≤ l) (hrl : r + l ≤ m) :
  (0 ≤ outA tr m r ∧ outA tr m r ≤ 1000 * r) ∧ (0 ≤ outB tr m r l ∧ outB tr m r l ≤ 1000 * l) ∧ 0 ≤ tr - outA tr m r - outB tr m r l ∧ tr - outA tr m r - outB tr m r l ≤ 1000 * (m - r - l) := by
 rw [outA, outB]
 split
 ·omega
 ·rename_i h0
  have mp : 0 < m := by omega
  have h1 : 0 ≤ tr * r := Int.mul_nonneg ht.1 hr
  have h1l : 0 ≤ tr * l := Int.mul_nonneg ht.1 hl
  have h2 : tr * (r + l) = tr * r + tr * l := Int.mul_add _ _ _
  rw [Int.tdiv_eq_ediv_of_nonneg h1, Int.tdiv_eq_ediv_of_nonneg (by omega)]
  have a1 : tr * r ≤ (1000 * r) * m := by
   have := Int.mul_le_mul_of_nonneg_right ht.2 hr
   rwa [show 1000 * m * r = 1000 * r * m by rw [Int.mul_assoc, Int.mul_comm m r, ← Int.mul_assoc]] at this
  have a2 : tr * l ≤ (1000 * l) * m := by
   have := Int.mul_le_mul_of_nonneg_right ht.2 hl
   rwa [show 1000 * m * l = 1000 * l * m by rw [Int.mul_assoc, Int.mul_comm m l, ← Int.mul_assoc]] at this
  have a3 : tr * r / m ≤ 1000 * r := by
   have := Int.ediv_le_ediv mp a1
   rwa [Int.mul_ediv_cancel _ (by omega)] at this
  have a4 : tr * (r + l) / m ≤ tr * r / m + 1000 * l := by
   rw [← Int.add_mul_ediv_right _ _ (by omega : m ≠ 0)]
   exact Int.ediv_le_ediv mp (by omega)
  have a5 : tr * r / m ≤ tr * (r + l) / m := Int.ediv_le_ediv mp (by omega)
  have a6 : 0 ≤ tr * r / m := Int.ediv_nonneg h1 (by omega)
  have a7 : tr * (r + l) / m ≤ tr := by
   have h3 : tr * (r + l) ≤ tr * m := Int.mul_le_mul_of_nonneg_left hrl ht.1
   have := Int.ediv_le_ediv mp h3
   rwa [Int.mul_ediv_cancel _ (by omega)] at this
  have a8 : tr - 1000 * (m - r - l) ≤ tr * (r + l) / m := by
   refine Int.le_ediv_of_mul_le mp ?_
   have h4 : tr * (m - r - l) ≤ 1000 * m * (m - r - l) := Int.mul_le_mul_of_nonneg_right ht.2 (by omega)
   have e1 : tr * (m - r - l) = tr * m - tr * (r + l) := by rw [show m - r - l = m - (r + l) by omega, Int.mul_sub]
   have e2 : (tr - 1000 * (m - r - l)) * m = tr * m - 1000 * m * (m - r - l) := by rw [Int.sub_mul, Int.mul_assoc 1000 (m - r - l) m, Int.mul_comm (m - r - l) m, ← Int.mul_assoc]
   omega
  omega
theorem stMT_range {s : Sta} (hs : StG s) (t : Int) (i : Nat) (hi : i < s.lv.length) : 0 ≤ stM s t i ∧ 0 ≤ stT s t i ∧ stT s t i ≤ 1000 * stM s t i := by
 have key : ∀ j, j < s.lv.length → (0 ≤ oA s t j ∧ oA s t j ≤ 1000 * goR s t j) ∧ (0 ≤ oB s t j ∧ oB s t j ≤ 1000 * goL s t j) ∧ 0 ≤ rd s.ts (j : Int) - oA s t j - oB s t j ∧ rd s.ts (j : Int) - oA s t j - oB s t j ≤ 1000 * (rd s.ms (j : Int) - goR s t j - goL s t j) := fun j hj =>
  leaf_share (hs.f.mv j hj).1 (hs.tv j hj) (go_range hs.f t j hj).1 (go_range hs.f t j hj).2.1 (go_range hs.f t j hj).2.2.2.2
 have h0 := key i hi
 have g0 := go_range hs.f t i hi
 have hM := stM_dlt hs t i hi
 have hT : stT s t i = rd s.ts (i : Int) - oA s t i - oB s t i + oAL s t i + (if i + 1 < s.lv.length then oB s t (i + 1) else 0) := rfl
 unfold dlt at hM
 rw [if_pos hi] at hM
 have hL : (i = 0 → oAL s t i = 0) ∧ (0 < i → oAL s t i = oA s t (i - 1)) := by
  cases i with
  | zero => exact ⟨fun _ => rfl, fun h => by omega⟩
  | succ i => exact ⟨fun h => by omega, fun _ => rfl⟩
 by_cases c1 : 0 < i
 ·have h1 := key (i - 1) (by omega)
  rw [if_pos ⟨c1, by omega⟩] at hM
  have h1L := hL.2 c1
  by_cases c2 : i + 1 < s.lv.length
  ·have h2 := key (i + 1) c2
   have g2 := go_range hs.f t (i + 1) c2
   have g1 := go_range hs.f t (i - 1) (by omega)
   rw [if_pos c2] at hM hT
   omega
  ·rw [if_neg c2] at hM hT
   have g1 := go_range hs.f t (i - 1) (by omega)
   omega
 ·rw [if_neg (by omega)] at hM
  have h1L := hL.1 (by omega)
  by_cases c2 : i + 1 < s.lv.length
  ·have h2 := key (i + 1) c2
   have g2 := go_range hs.f t (i + 1) c2
   rw [if_pos c2] at hM hT
   omega
  ·rw [if_neg c2] at hM hT
   omega
theorem rowOf_snoc (k : Nat) (f : Nat → Int) : rowOf (k + 1) f = rowOf k f ++ [f k] := by
 rw [rowOf, rowOf, List.range_succ, List.map_append]
 rfl
theorem stM_sum {s : Sta} (t : Int) (hm : s.ms.length = s.lv.length) : ∀ k, k ≤ s.lv.length → (rowOf k (stM s t)).sum = (s.ms.take k).sum - flL s t k
 | 0, _ => by simp [rowOf, flL]
 | k + 1, hk => by
  have ih := stM_sum t hm k (by omega)
  have hk2 : k < s.ms.length := by omega
  rw [rowOf_snoc, List.sum_append, ih, List.take_add_one, List.getElem?_eq_getElem hk2, List.sum_append, flL]
  have e : rd s.ms (k : Int) = s.ms[k] := by rw [rd_nat, List.getD_eq_getElem?_getD, List.getElem?_eq_getElem hk2]; rfl
  simp only [List.sum_cons, List.sum_nil, Option.toList_some]
  rw [stM, e]
  omega
theorem sum_nn : ∀ (l : List Int), (∀ x ∈ l, 0 ≤ x) → 0 ≤ l.sum
 | [], _ => by simp
 | y :: l, h => by
  rw [List.sum_cons]
  have h1 := sum_nn l fun z hz => h z (List.mem_cons_of_mem _ hz)
  have h2 := h y (List.mem_cons_self ..)
  omega
theorem sum_ge_mem : ∀ (l : List Int), (∀ x ∈ l, 0 ≤ x) → ∀ x ∈ l, x ≤ l.sum
 | [], _, x, hx => by simp at hx
 | y :: l, h, x, hx => by
  have h1 : 0 ≤ l.sum := sum_nn l fun z hz => h z (List.mem_cons_of_mem _ hz)
  rw [List.sum_cons]
  rcases List.mem_cons.1 hx with rfl | hx
  ·omega
  ·have := sum_ge_mem l (fun z hz => h z (List.mem_cons_of_mem _ hz)) x hx
   have := h y (List.mem_cons_self ..)
   omega
theorem cells_all {ms ts : List Int} {n : Nat} (h : ∀ i : Nat, i < n → (0 ≤ rd ms (i : Int) ∧ rd ms (i : Int) ≤ 10000000) ∧ (0 ≤ rd ts (i : Int) ∧ rd ts (i : Int) ≤ 1000 * rd ms (i : Int))) : ∀ (d j : Nat), j + d ≤ n → cellsOk ms ts d j = true
 | 0, j, _ => rfl
 | d + 1, j, hd => by
  simp only [cellsOk, Bool.and_eq_true, inR_iff]
  exact ⟨h j (by omega), cells_all h d (j + 1) (by omega)⟩
theorem stepS_ok {s : Sta} (h : staOk s.ro s.lv s.ms s.ts s.bd = true) (t : Int) : staOk (stepS s t).ro (stepS s t).lv (stepS s t).ms (stepS s t).ts (stepS s t).bd = true := by
 have hs := StG.of h
 have hml := hs.f.ms
 have hsum : (stepS s t).ms.sum = s.ms.sum := by
  have h1 := stM_sum t hml s.lv.length (Nat.le_refl _)
  rw [List.take_of_length_le (by omega)] at h1
  have h2 : flL s t s.lv.length = 0 := by
   have hone := hs.one
   obtain ⟨n, hn⟩ : ∃ n, s.lv.length = n + 1 := ⟨s.lv.length - 1, by omega⟩
   rw [hn, flL]
   exact (fl_range hs.f t n (by omega)).2.2 (by omega)
  rw [h2] at h1
  show (rowOf s.lv.length (stM s t)).sum = _
  omega
 have hge : ∀ x ∈ (stepS s t).ms, 0 ≤ x := fun x hx => by
  obtain ⟨j, hj, rfl⟩ := List.mem_map.1 hx
  exact (stMT_range hs t j (List.mem_range.1 hj)).1
 simp only [staOk, hasC, Bool.and_eq_true, decide_eq_true_iff] at h ⊢
 obtain ⟨h1, ⟨⟨⟨⟨⟨h2, h3⟩, h4⟩, h5⟩, h6⟩, h7⟩⟩ := h
 refine ⟨h1, ⟨⟨⟨⟨⟨by simp [stepS], by simp [stepS]⟩, h4⟩, h5⟩, cells_all (n := s.lv.length) (fun i hi => ?_) s.lv.length 0 (by omega)⟩, by rw [hsum]; exact h7⟩⟩
 have e1 : rd (stepS s t).ms (i : Int) = stM s t i := rd_rowOf (stM s t) hi
 have e2 : rd (stepS s t).ts (i : Int) = stT s t i := rd_rowOf (stT s t) hi
 have h8 := stMT_range hs t i hi
 have h9 : stM s t i ≤ 10000000 := by
  have := sum_ge_mem _ hge (stM s t i) (List.mem_map.2 ⟨i, List.mem_range.2 hi, rfl⟩)
  omega
 rw [e1, e2]
 exact ⟨⟨h8.1, h9⟩, h8.2⟩
end Go.Proofs.Ytkendhkaheoinaa.U
