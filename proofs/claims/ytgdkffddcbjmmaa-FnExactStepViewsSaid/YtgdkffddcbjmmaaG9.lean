
/- Trees of cells drawn: one row that grows. -/
import Derived.Test.YtgdkffddcbjmmaaSk
import Derived.Test.YtgdkffddcbjmmaaG7
import Derived.Test.YtgdkffddcbjmmaaG3
import Derived.Test.YtgdkffddcbjmmaaIa
import Derived.Test.YtgdkffddcbjmmaaKn
set_option linter.unusedVariables false
set_option linter.unusedSimpArgs false
namespace Go.Proofs.Ytgdkffddcbjmmaa.U
open Go.RowKit Go.Lib Go.Proofs.YtgdkffddcbjmmaaW.PrintWords
open Go.Proofs.YtgdkffddcbjmmaaW.PrintLast Go.Proofs.YtgdkffddcbjmmaaW.PrintMore
theorem Wi.put (w : World) (g i : Nat) (u : Value) : Wi w (w.setCell ⟨g, i, none⟩ u) g (g + 1) := ⟨rfl, rfl, rfl, by simp [World.setCell], fun k _ hn => Below.heap_setCell w ⟨g, i, none⟩ u k (fun e => hn (by simp at e; omega))⟩
section
variable {w0 w w1 w2 wd : World} {g M : Nat} {ro : Int} {v v1 v2 : Value} {l a b : List Ce} {x : Ce}
end
end Go.Proofs.Ytgdkffddcbjmmaa.U
set_option linter.unusedVariables false
set_option linter.unusedSimpArgs false
namespace Go.Proofs.Ytgdkffddcbjmmaa.U
open Go.RowKit Go.Lib Go.Proofs.YtgdkffddcbjmmaaW.PrintWords
open Go.Proofs.YtgdkffddcbjmmaaW.PrintLast Go.Proofs.YtgdkffddcbjmmaaW.PrintMore
structure MeshD (ro : Int) (l : List Ce) : Prop where
 rng : 1 ≤ ro ∧ ro ≤ 3
 en : meshEnd l 0 = some (ro * 16)
theorem MeshD.ok {ro : Int} {l : List Ce} (h : MeshD ro l) : meshOk ro l = true := by
 rw [meshOk, h.en, endIs_some (inR_iff.2 (by have := h.rng; omega))]
 simp
end Go.Proofs.Ytgdkffddcbjmmaa.U
set_option linter.unusedVariables false
set_option linter.unusedSimpArgs false
namespace Go.Proofs.Ytgdkffddcbjmmaa.U
open Go.RowKit Go.Lib Go.Proofs.YtgdkffddcbjmmaaW.PrintWords
open Go.Proofs.YtgdkffddcbjmmaaW.PrintLast Go.Proofs.YtgdkffddcbjmmaaW.PrintMore
theorem FO.put {w w' : World} {base t k n g : Nat} {v : Value} {F : List Int} {cs : Array Value} {e : TypeId} (h : FO w base t k v n F) (hg : w.heap[g]? = some (.cells cs e (0, 0))) (hne : t ≠ e) (c : Wi w w' g (g + 1)) : FO w' base t k v n F :=
 ⟨own_move h.out fun q hq => c.block q (own_lt h.out q hq) (fun e2 => own_ne h.out hg hne (by rw [hq, show q = g by omega]))⟩
set_option maxHeartbeats 4000000 in
set_option maxRecDepth 100000 in
theorem spec_l04Copy (ro : Int) (A : Option Addr) (n c : Nat) (l : List Ce) (w : World) (r : IdR w A n l) (hn : n ≤ 1000000) :
  Calls Try.prog 49 #[.agg #[.int .i64 ro, .slice A n c]] w fun e w' => ∃ X y, e = .returned (.agg #[.int .i64 ro, .slice X n y]) ∧ FO w' w.heap.size 60 3 (.slice X n y) n (idF l) ∧ Bw w w' := by
 have b0 := (Bw.box1 w (.cells #[.int .i64 ro, .slice A n c] 37)).alloc (.cells #[.int .i64 0, .slice none 0 0] 37)
 have g0 := box_cell ((Bw.refl (w.alloc (.cells #[.int .i64 ro, .slice A n c] 37))).alloc (.cells #[.int .i64 0, .slice none 0 0] 37)) 0
 have g1 := box_cell ((Bw.refl (w.alloc (.cells #[.int .i64 ro, .slice A n c] 37))).alloc (.cells #[.int .i64 0, .slice none 0 0] 37)) 1
 simp only [List.getElem?_toArray, List.getElem?_cons_zero, List.getElem?_cons_succ] at g0 g1
 have hR := heap_alloc_new (w.alloc (.cells #[.int .i64 ro, .slice A n c] 37)) (.cells #[.int .i64 0, .slice none 0 0] 37 (0, 0))
 rw [show (w.alloc (.cells #[.int .i64 ro, .slice A n c] 37)).heap.size = w.heap.size + 1 by simp] at hR
 go_enter Try.func49, Try.ntmps49
 go_upto_region 1 with fail
 generalize ((w.alloc (.cells #[.int .i64 ro, .slice A n c] 37)).alloc (.cells #[.int .i64 0, .slice none 0 0] 37)) = W1 at *
 refine start_ (n := 8) (S := fun w' => w'.cell? ⟨w.heap.size, 0, none⟩ = some (.int .i64 ro) ∧ w'.cell? ⟨w.heap.size, 1, none⟩ = some (.slice A n c)) (ds := [7]) #[false, false, false, false, false, false, false, false] (by kernel_rfl) rfl rfl ⟨g0, g1⟩ (fun hHeld => ?_)
 refine pq_ (i := 0) (N := (some 3)) (v := ?_) (a' := ?_) rfl rfl (by kernel_rfl) (fun _ _ _ h => h) (Or.inl ⟨by rfl, ?_⟩) ?_ ?_
 rotate_left; (intro w'; go_simp; with_reducible rfl); rotate_left; (simp only [Act.put, s1_, s2_, s3_, i64_w, i32_w]; rfl)
 refine tq_ (i := 1) (N := (some 4)) (v := ?_) (a' := ?_) rfl rfl (by kernel_rfl) (fun _ _ _ h => h) (Or.inl ⟨by rfl, ?_⟩) hHeld ?_ ?_
 rotate_left; (rintro w' ⟨s0, s1⟩; go_simp; with_reducible rfl); rotate_left; (simp only [Act.put, s1_, s2_, s3_, i64_w, i32_w]; rfl)
 refine pq_ (i := 3) (N := (some 6)) (v := ?_) (a' := ?_) rfl rfl (by kernel_rfl) (fun _ _ _ h => h) (Or.inl ⟨by rfl, ?_⟩) ?_ ?_
 rotate_left; (intro w'; go_simp; with_reducible rfl); rotate_left; (simp only [Act.put, s1_, s2_, s3_, i64_w, i32_w]; rfl)
 refine tq_ (i := 4) (N := (some 7)) (v := ?_) (a' := ?_) rfl rfl (by kernel_rfl) (fun _ _ _ h => h) (Or.inl ⟨by rfl, ?_⟩) hHeld ?_ ?_
 rotate_left; (rintro w' ⟨s0, s1⟩; go_simp; with_reducible rfl); rotate_left; (simp only [Act.put, s1_, s2_, s3_, i64_w, i32_w]; rfl)
 clear hHeld
 have bD := Bw.drawn (a := W1) ⟨⟨1, rfl⟩⟩
 have bA := Bw.box1 (W1.drewN 1) (.cells #[] 60)
 have oA := IdO.lit0 (W1.drewN 1)
 have bDA := bD.trans bA
 refine one_ (i := 2) (N := (some 5)) #[true, true, true, true, true, false, false, false] rfl rfl (by kernel_rfl) (by decide) (fun K hK => ?_)
 refine value_ (w1 := ?_) (v := ?_) (by rfl) rfl ?_ ?_
 rotate_left 2
 ·go_simp
  constructor
  ·rfl
  ·rfl
 refine hK.out _ _ ⟨pw_cell_below bDA.out g0, pw_cell_below bDA.out g1⟩ (fun _ => ?_)
 rename_i hJ_
 clear hJ_
 clear hK K; refine norm_ (a' := ?_) ?_ ?_; rotate_left; (show Act.put _ (some 5) _ = _; simp only [Act.put, s1_, s2_, s3_, i64_w, i32_w]; rfl)
 refine one_ (i := 5) (N := (some 8)) #[true, true, true, true, true, true, false, false] rfl rfl (by kernel_rfl) (by decide) (fun K hK => ?_)
 refine appendIds_step (w0 := W1.drewN 1) (W1.drewN 1).heap.size (by rfl) (.tmp 5) (.tmp 7) rfl (.slice (some ⟨(W1.drewN 1).heap.size, 0, none⟩) 0 0) [] l A n c rfl rfl oA (r.to (b0.trans bDA)) bA.out bA.size (by simp; omega) ?_
 intro v1 wd ho hBd hgd had
 rw [List.nil_append, r.len] at ho
 obtain ⟨X, y, rfl, hy, _⟩ := FO.reads ho
 have bW : Bw W1 wd := bD.trans ⟨hBd⟩
 refine hK.out _ _ ⟨pw_cell_below bW.out g0, pw_cell_below bW.out g1⟩ (fun _ => ?_)
 rename_i hJ_
 clear hJ_
 clear hK K; refine norm_ (a' := ?_) ?_ ?_; rotate_left; (show Act.put _ (some 8) _ = _; simp only [Act.put, s1_, s2_, s3_, i64_w, i32_w]; rfl)
 refine pq_ (i := 6) (N := (some 9)) (v := ?_) (a' := ?_) rfl rfl (by kernel_rfl) (fun _ _ _ h => h) (Or.inl ⟨by rfl, ?_⟩) ?_ ?_
 rotate_left; (intro w'; go_simp; with_reducible rfl); rotate_left; (simp only [Act.put, s1_, s2_, s3_, i64_w, i32_w]; rfl)
 have hRk := (bW.out.block _ (blk_lt hR)).trans hR
 have bb := b0.trans bW
 replace ho : FO wd w.heap.size 60 3 (.slice X n y) n (idF l) := FO.less ho (by have := bD.size; have := b0.size; omega)
 have s0 := (blk_cell hRk 0).trans (show _ = some (Value.int .i64 0) from rfl)
 have s1 := (blk_cell hRk 1).trans (show _ = some (Value.slice none 0 0) from rfl)
 have f0 := blk_frozen hRk 0
 have f1 := blk_frozen hRk 1
 have HF := hid (show ((wd.setCell ⟨w.heap.size + 1, 0, none⟩ (.int .i64 ro)).setCell ⟨w.heap.size + 1, 1, none⟩ (.slice X n y)).heap[w.heap.size + 1]? = some (.cells #[.int .i64 ro, .slice X n y] 37 (0, 0)) from blk_set (blk_set hRk 0 _) 1 _)
 have CF : Wi wd ((wd.setCell ⟨w.heap.size + 1, 0, none⟩ (.int .i64 ro)).setCell ⟨w.heap.size + 1, 1, none⟩ (.slice X n y)) (w.heap.size + 1) (w.heap.size + 1 + 1) := ((Wi.refl wd _ _).trans (Wi.put _ _ 0 _)).trans (Wi.put _ _ 1 _)
 have HOF := hid (FO.put ho hRk (by decide) CF)
 have HBF := hid (bb.then_wi CF (by omega))
 clear CF hRk ho bb
 refine last_ (i := 7) (N := none) #[true, true, true, true, true, true, true, true] rfl rfl (by kernel_rfl) (by decide) (fun K hK => ?_)
 refine skip_ (w1 := ?_) (by rfl) rfl ?_ ?_
 rotate_left
 ·go_simp
  rfl
 refine hK.out _ _ ?_
 clear hK K
 refine done_ (by kernel_rfl) ?_
 go_wp2
 refine bodyPost_ret (results_cell_row rfl _ _ (w.heap.size + 1) 37 #[.int .i64 ro, .slice X n y] (0, 0) _ rfl HF.out Try.underlying37 rfl (by kernel_rfl)) rfl ?_
 exact ⟨_, _, rfl, HOF.out, HBF.out⟩
theorem FO.room {w : World} {base n y : Nat} {X : Option Addr} {F : List Int} (h : FO w base 60 3 (.slice X n y) n F) : n ≤ y := by
 obtain ⟨A, c, e, hc, _⟩ := h.reads
 simp only [Value.slice.injEq] at e
 obtain ⟨_, _, rfl⟩ := e
 exact hc
end Go.Proofs.Ytgdkffddcbjmmaa.U
set_option linter.unusedVariables false
set_option linter.unusedSimpArgs false
namespace Go.Proofs.Ytgdkffddcbjmmaa.U
open Go.RowKit Go.Lib Go.Proofs.YtgdkffddcbjmmaaW.PrintWords
theorem Cn.put {w w' : World} {base : Nat} {κ : Nat → Nat} {c t k n g : Nat} {v : Value} {F : List Int} {cs : Array Value} {e : TypeId} (h : Cn w base κ c t k v n F) (hg : w.heap[g]? = some (.cells cs e (0, 0))) (hne : t ≠ e) (hw : Wi w w' g (g + 1)) : Cn w' base κ c t k v n F := ⟨FO.put h.o hg hne hw, h.col⟩
section
variable {w0 w W W' wd : World} {g R Mb Sb base : Nat} {κ : Nat → Nat} {ro : Int} {X : Option Addr} {n y : Nat} {l : List Ce} {mv tv bv v1 : Value} {ms ts bd : List Int}
theorem Cn.cur {c t k : Nat} {v : Value} {F : List Int} {m : Nat} (h : Cn W base κ c t k v m F) (hg : W.grownBy W' (some g)) (hb : g < base) : Cn W' base (paint κ W.heap.size 0) c t k v m F :=
 ⟨⟨own_other h.o.out hg (.inr fun e => by have := own_base h.o.out g e; omega)⟩, fun q hq => by
  rw [paint, if_neg (by have := h.hd q hq; omega)]
  exact h.col q hq⟩
end
end Go.Proofs.Ytgdkffddcbjmmaa.U
