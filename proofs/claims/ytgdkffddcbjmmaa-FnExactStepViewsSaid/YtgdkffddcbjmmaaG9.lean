
/- Trees of cells drawn: one row that grows. -/
import Derived.Test.YtgdkffddcbjmmaaSk
import Derived.Test.YtgdkffddcbjmmaaG7
import Derived.Test.YtgdkffddcbjmmaaG3
import Derived.Test.YtgdkffddcbjmmaaIa
import Derived.Test.YtgdkffddcbjmmaaKn
set_option linter.unusedVariables false
set_option linter.unusedSimpArgs false
namespace Go.Proofs.Ytgdkffddcbjmmaa.U
open Go.RowKit Go.Lib Go.Proofs.YtgdkffddcbjmmaaW.PrintWords
open Go.Proofs.YtgdkffddcbjmmaaW.PrintLast Go.Proofs.YtgdkffddcbjmmaaW.PrintMore
theorem Wi.put (w : World) (g i : Nat) (u : Value) : Wi w (w.setCell ⟨g, i, none⟩ u) g (g + 1) := ⟨rfl, rfl, rfl, by simp [World.setCell], fun k _ hn => Below.heap_setCell w ⟨g, i, none⟩ u k (fun e => hn (by simp at e; omega))⟩
structure Keep (w w' : World) (g M : Nat) (v : Value) : Prop where
 size : w.heap.size ≤ w'.heap.size
 block : ∀ b, b < w.heap.size → b ≠ g → b ≠ M → v.ownBlock ≠ some b → w'.heap[b]? = w.heap[b]?
def OwnTo (w : World) (v v' : Value) : Prop := v'.ownBlock = v.ownBlock ∨ ∃ q, v'.ownBlock = some q ∧ w.heap.size ≤ q
structure Grew (w0 w w' : World) (g M : Nat) (ro : Int) (v v' : Value) (l l' : List Ce) : Prop where
 cur : Cur w0 w' g
 blk : w'.heap[M]? = some (.cells #[.int .i64 ro, v'] 37 (0, 0))
 row : FO w' (g + 1) 60 3 v' (l ++ l').length (idF (l ++ l'))
 own : OwnTo w v v'
 keep : Keep w w' g M v
section
variable {w0 w w1 w2 wd : World} {g M : Nat} {ro : Int} {v v1 v2 : Value} {l a b : List Ce} {x : Ce}
theorem Grew.trans (h : Grew w0 w w1 g M ro v v1 l a) (k : Grew w0 w1 w2 g M ro v1 v2 (l ++ a) b) : Grew w0 w w2 g M ro v v2 l (a ++ b) := by
 have hs := h.keep.size
 refine ⟨k.cur, k.blk, by rw [← List.append_assoc]; exact k.row, ?_, Nat.le_trans hs k.keep.size, fun q hq h1 h2 h3 => (k.keep.block q (by omega) h1 h2 fun e => ?_).trans (h.keep.block q hq h1 h2 h3)⟩
 ·rcases k.own with e | ⟨q, e, hq⟩
  ·rcases h.own with e2 | ⟨q, e2, hq⟩
   ·exact .inl (e.trans e2)
   ·exact .inr ⟨q, e.trans e2, hq⟩
  ·exact .inr ⟨q, e, by omega⟩
 ·rcases h.own with e2 | ⟨p, e2, hp⟩
  ·exact h3 (e2.symm.trans e)
  ·rw [e2] at e
   have := Option.some.inj e
   omega
theorem Grew.before (h : Grew w0 w1 w2 g M ro v v1 l a) (k : Bw w w1) (hv : ∀ q, v.ownBlock = some q → q < w.heap.size) : Grew w0 w w2 g M ro v v1 l a := by
 have hs := k.size
 refine ⟨h.cur, h.blk, h.row, ?_, Nat.le_trans hs h.keep.size, fun q hq h1 h2 h3 => (h.keep.block q (by omega) h1 h2 h3).trans (k.out.block q hq)⟩
 rcases h.own with e | ⟨q, e, hq⟩
 ·exact .inl e
 ·exact .inr ⟨q, e, by omega⟩
theorem Grew.after (h : Grew w0 w w1 g M ro v v1 l a) (k : Bw w1 w2) : Grew w0 w w2 g M ro v v1 l a :=
 ⟨h.cur.bw k, (k.out.block _ (blk_lt h.blk)).trans h.blk, h.row.to k, h.own, Nat.le_trans h.keep.size k.size, fun q hq h1 h2 h3 => (k.out.block q (Nat.lt_of_lt_of_le hq h.keep.size)).trans (h.keep.block q hq h1 h2 h3)⟩
theorem Grew.none (hC : Cur w0 w g) (hk : w.heap[M]? = some (.cells #[.int .i64 ro, v] 37 (0, 0))) (o : FO w (g + 1) 60 3 v l.length (idF l)) : Grew w0 w w g M ro v v l [] :=
 ⟨hC, hk, by rw [List.append_nil]; exact o, .inl rfl, Nat.le_refl _, fun _ _ _ _ _ => rfl⟩
theorem Grew.draw (hC : Cur w0 w1 g) (hg : w.grownBy w1 (some g)) (hMg : M ≠ g) (hk : w.heap[M]? = some (.cells #[.int .i64 ro, v] 37 (0, 0))) (o : FO w (g + 1) 60 3 v l.length (idF l)) : Grew w0 w w1 g M ro v v l [] :=
 ⟨hC, blk_grown hk hg (fun e => hMg (Option.some.inj e)), by rw [List.append_nil]; exact ⟨own_other o.out hg (.inr fun e => by have := own_base o.out g e; omega)⟩, .inl rfl, hg.size, fun q hq h1 h2 h3 => hg.block q hq (fun e => h1 (Option.some.inj e))⟩
theorem Grew.app (hC : Cur w0 w g) (hk : w.heap[M]? = some (.cells #[.int .i64 ro, v] 37 (0, 0))) (o : FO w (g + 1) 60 3 v l.length (idF l)) (od : wd.ownsRow (g + 1) 60 3 v1 (l.length + 1) (nums .i64 (idF l) ++ [.int .i64 x.r, .int .i64 x.l, .int .i64 x.i])) (hgd : w.grownBy wd v.ownBlock) (had : v1.ownBlock = v.ownBlock ∨ ∃ q, v1.ownBlock = some q ∧ w.heap.size ≤ q) (hM : w0.heap.size ≤ M) (hMg : M ≠ g) :
  Grew w0 w (wd.setCell ⟨M, 1, Option.none⟩ v1) g M ro v v1 l [x] := by
 have hkD := blk_grown hk hgd (own_ne o.out hk (by decide))
 have hCd : Cur w0 wd g := hC.grow hgd (fun j e => by have := own_base o.out j e; omega)
 have oF : FO wd (g + 1) 60 3 v1 (l ++ [x]).length (idF (l ++ [x])) := ⟨by
  have e : nums .i64 (idF (l ++ [x])) = nums .i64 (idF l) ++ [.int .i64 x.r, .int .i64 x.l, .int .i64 x.i] := by simp [idF, nums]
  rw [e, List.length_append]
  exact od⟩
 have hs : wd.heap.size ≤ (wd.setCell ⟨M, 1, Option.none⟩ v1).heap.size := by simp [World.setCell]
 refine ⟨hCd.set hM hMg _ _, (blk_set hkD 1 v1).trans rfl, ⟨own_move oF.out fun q hq => Below.heap_setCell wd ⟨M, 1, Option.none⟩ v1 q (fun e2 => own_ne oF.out hkD (by decide) (by simp at e2; rw [hq, e2]))⟩, had, Nat.le_trans hgd.size hs, fun q hq h1 h2 h3 => ?_⟩
 exact (Below.heap_setCell wd ⟨M, 1, Option.none⟩ v1 q (fun e => h2 (by simpa using e))).trans (hgd.block q hq (fun e => h3 e.symm))
theorem Grew.at (h : Grew w0 w w1 g M ro v v1 l a) {q : Nat} {o : Obj} (hq : w.heap[q]? = some o) (h1 : q ≠ g) (h2 : q ≠ M) (h3 : v.ownBlock ≠ some q) : w1.heap[q]? = some o := (h.keep.block q (blk_lt hq) h1 h2 h3).trans hq
end
end Go.Proofs.Ytgdkffddcbjmmaa.U
set_option linter.unusedVariables false
set_option linter.unusedSimpArgs false
namespace Go.Proofs.Ytgdkffddcbjmmaa.U
open Go.RowKit Go.Lib Go.Proofs.YtgdkffddcbjmmaaW.PrintWords
open Go.Proofs.YtgdkffddcbjmmaaW.PrintLast Go.Proofs.YtgdkffddcbjmmaaW.PrintMore
theorem grown_cur {w0 w w' : World} {g : Nat} (h : Cur w0 w g) (k : Cur w0 w' g) (hs : w.heap.size ≤ w'.heap.size) (hb : ∀ b, b < w.heap.size → b ≠ g → w'.heap[b]? = w.heap[b]?) : w.grownBy w' (some g) :=
 ⟨k.below.os.trans h.below.os.symm, k.below.tape.trans h.below.tape.symm, k.below.output.trans h.below.output.symm, hs, fun b hb1 hne => hb b hb1 (fun e => hne (by rw [e]))⟩
structure MeshD (ro : Int) (l : List Ce) : Prop where
 rng : 1 ≤ ro ∧ ro ≤ 3
 en : meshEnd l 0 = some (ro * 16)
theorem MeshD.ok {ro : Int} {l : List Ce} (h : MeshD ro l) : meshOk ro l = true := by
 rw [meshOk, h.en, endIs_some (inR_iff.2 (by have := h.rng; omega))]
 simp
end Go.Proofs.Ytgdkffddcbjmmaa.U
set_option linter.unusedVariables false
set_option linter.unusedSimpArgs false
namespace Go.Proofs.Ytgdkffddcbjmmaa.U
open Go.RowKit Go.Lib Go.Proofs.YtgdkffddcbjmmaaW.PrintWords
open Go.Proofs.YtgdkffddcbjmmaaW.PrintLast Go.Proofs.YtgdkffddcbjmmaaW.PrintMore
theorem FO.put {w w' : World} {base t k n g : Nat} {v : Value} {F : List Int} {cs : Array Value} {e : TypeId} (h : FO w base t k v n F) (hg : w.heap[g]? = some (.cells cs e (0, 0))) (hne : t ≠ e) (c : Wi w w' g (g + 1)) : FO w' base t k v n F :=
 ⟨own_move h.out fun q hq => c.block q (own_lt h.out q hq) (fun e2 => own_ne h.out hg hne (by rw [hq, show q = g by omega]))⟩
set_option maxHeartbeats 4000000 in
set_option maxRecDepth 100000 in
theorem spec_l04Copy (ro : Int) (A : Option Addr) (n c : Nat) (l : List Ce) (w : World) (r : IdR w A n l) (hn : n ≤ 1000000) :
  Calls Try.prog 49 #[.agg #[.int .i64 ro, .slice A n c]] w fun e w' => ∃ X y, e = .returned (.agg #[.int .i64 ro, .slice X n y]) ∧ FO w' w.heap.size 60 3 (.slice X n y) n (idF l) ∧ Bw w w' := by
 have b0 := (Bw.box1 w (.cells #[.int .i64 ro, .slice A n c] 37)).alloc (.cells #[.int .i64 0, .slice none 0 0] 37)
 have g0 := box_cell ((Bw.refl (w.alloc (.cells #[.int .i64 ro, .slice A n c] 37))).alloc (.cells #[.int .i64 0, .slice none 0 0] 37)) 0
 have g1 := box_cell ((Bw.refl (w.alloc (.cells #[.int .i64 ro, .slice A n c] 37))).alloc (.cells #[.int .i64 0, .slice none 0 0] 37)) 1
 simp only [List.getElem?_toArray, List.getElem?_cons_zero, List.getElem?_cons_succ] at g0 g1
 have hR := heap_alloc_new (w.alloc (.cells #[.int .i64 ro, .slice A n c] 37)) (.cells #[.int .i64 0, .slice none 0 0] 37 (0, 0))
 rw [show (w.alloc (.cells #[.int .i64 ro, .slice A n c] 37)).heap.size = w.heap.size + 1 by simp] at hR
 go_enter Try.func49, Try.ntmps49
 go_upto_region 1 with fail
 generalize ((w.alloc (.cells #[.int .i64 ro, .slice A n c] 37)).alloc (.cells #[.int .i64 0, .slice none 0 0] 37)) = W1 at *
 refine start_ (n := 8) (S := fun w' => w'.cell? ⟨w.heap.size, 0, none⟩ = some (.int .i64 ro) ∧ w'.cell? ⟨w.heap.size, 1, none⟩ = some (.slice A n c)) (ds := [7]) #[false, false, false, false, false, false, false, false] (by kernel_rfl) rfl rfl ⟨g0, g1⟩ (fun hHeld => ?_)
 refine pq_ (i := 0) (N := (some 3)) (v := ?_) (a' := ?_) rfl rfl (by kernel_rfl) (fun _ _ _ h => h) (Or.inl ⟨by rfl, ?_⟩) ?_ ?_
 rotate_left; (intro w'; go_simp; with_reducible rfl); rotate_left; (simp only [Act.put, s1_, s2_, s3_, i64_w, i32_w]; rfl)
 refine tq_ (i := 1) (N := (some 4)) (v := ?_) (a' := ?_) rfl rfl (by kernel_rfl) (fun _ _ _ h => h) (Or.inl ⟨by rfl, ?_⟩) hHeld ?_ ?_
 rotate_left; (rintro w' ⟨s0, s1⟩; go_simp; with_reducible rfl); rotate_left; (simp only [Act.put, s1_, s2_, s3_, i64_w, i32_w]; rfl)
 refine pq_ (i := 3) (N := (some 6)) (v := ?_) (a' := ?_) rfl rfl (by kernel_rfl) (fun _ _ _ h => h) (Or.inl ⟨by rfl, ?_⟩) ?_ ?_
 rotate_left; (intro w'; go_simp; with_reducible rfl); rotate_left; (simp only [Act.put, s1_, s2_, s3_, i64_w, i32_w]; rfl)
 refine tq_ (i := 4) (N := (some 7)) (v := ?_) (a' := ?_) rfl rfl (by kernel_rfl) (fun _ _ _ h => h) (Or.inl ⟨by rfl, ?_⟩) hHeld ?_ ?_
 rotate_left; (rintro w' ⟨s0, s1⟩; go_simp; with_reducible rfl); rotate_left; (simp only [Act.put, s1_, s2_, s3_, i64_w, i32_w]; rfl)
 clear hHeld
 have bD := Bw.drawn (a := W1) ⟨⟨1, rfl⟩⟩
 have bA := Bw.box1 (W1.drewN 1) (.cells #[] 60)
 have oA := IdO.lit0 (W1.drewN 1)
 have bDA := bD.trans bA
 refine one_ (i := 2) (N := (some 5)) #[true, true, true, true, true, false, false, false] rfl rfl (by kernel_rfl) (by decide) (fun K hK => ?_)
 refine value_ (w1 := ?_) (v := ?_) (by rfl) rfl ?_ ?_
 rotate_left 2
 ·go_simp
  constructor
  ·rfl
  ·rfl
 refine hK.out _ _ ⟨pw_cell_below bDA.out g0, pw_cell_below bDA.out g1⟩ (fun _ => ?_)
 rename_i hJ_
 clear hJ_
 clear hK K; refine norm_ (a' := ?_) ?_ ?_; rotate_left; (show Act.put _ (some 5) _ = _; simp only [Act.put, s1_, s2_, s3_, i64_w, i32_w]; rfl)
 refine one_ (i := 5) (N := (some 8)) #[true, true, true, true, true, true, false, false] rfl rfl (by kernel_rfl) (by decide) (fun K hK => ?_)
 refine appendIds_step (w0 := W1.drewN 1) (W1.drewN 1).heap.size (by rfl) (.tmp 5) (.tmp 7) rfl (.slice (some ⟨(W1.drewN 1).heap.size, 0, none⟩) 0 0) [] l A n c rfl rfl oA (r.to (b0.trans bDA)) bA.out bA.size (by simp; omega) ?_
 intro v1 wd ho hBd hgd had
 rw [List.nil_append, r.len] at ho
 obtain ⟨X, y, rfl, hy, _⟩ := FO.reads ho
 have bW : Bw W1 wd := bD.trans ⟨hBd⟩
 refine hK.out _ _ ⟨pw_cell_below bW.out g0, pw_cell_below bW.out g1⟩ (fun _ => ?_)
 rename_i hJ_
 clear hJ_
 clear hK K; refine norm_ (a' := ?_) ?_ ?_; rotate_left; (show Act.put _ (some 8) _ = _; simp only [Act.put, s1_, s2_, s3_, i64_w, i32_w]; rfl)
 refine pq_ (i := 6) (N := (some 9)) (v := ?_) (a' := ?_) rfl rfl (by kernel_rfl) (fun _ _ _ h => h) (Or.inl ⟨by rfl, ?_⟩) ?_ ?_
 rotate_left; (intro w'; go_simp; with_reducible rfl); rotate_left; (simp only [Act.put, s1_, s2_, s3_, i64_w, i32_w]; rfl)
 have hRk := (bW.out.block _ (blk_lt hR)).trans hR
 have bb := b0.trans bW
 replace ho : FO wd w.heap.size 60 3 (.slice X n y) n (idF l) := FO.less ho (by have := bD.size; have := b0.size; omega)
 have s0 := (blk_cell hRk 0).trans (show _ = some (Value.int .i64 0) from rfl)
 have s1 := (blk_cell hRk 1).trans (show _ = some (Value.slice none 0 0) from rfl)
 have f0 := blk_frozen hRk 0
 have f1 := blk_frozen hRk 1
 have HF := hid (show ((wd.setCell ⟨w.heap.size + 1, 0, none⟩ (.int .i64 ro)).setCell ⟨w.heap.size + 1, 1, none⟩ (.slice X n y)).heap[w.heap.size + 1]? = some (.cells #[.int .i64 ro, .slice X n y] 37 (0, 0)) from blk_set (blk_set hRk 0 _) 1 _)
 have CF : Wi wd ((wd.setCell ⟨w.heap.size + 1, 0, none⟩ (.int .i64 ro)).setCell ⟨w.heap.size + 1, 1, none⟩ (.slice X n y)) (w.heap.size + 1) (w.heap.size + 1 + 1) := ((Wi.refl wd _ _).trans (Wi.put _ _ 0 _)).trans (Wi.put _ _ 1 _)
 have HOF := hid (FO.put ho hRk (by decide) CF)
 have HBF := hid (bb.then_wi CF (by omega))
 clear CF hRk ho bb
 refine last_ (i := 7) (N := none) #[true, true, true, true, true, true, true, true] rfl rfl (by kernel_rfl) (by decide) (fun K hK => ?_)
 refine skip_ (w1 := ?_) (by rfl) rfl ?_ ?_
 rotate_left
 ·go_simp
  rfl
 refine hK.out _ _ ?_
 clear hK K
 refine done_ (by kernel_rfl) ?_
 go_wp2
 refine bodyPost_ret (results_cell_row rfl _ _ (w.heap.size + 1) 37 #[.int .i64 ro, .slice X n y] (0, 0) _ rfl HF.out Try.underlying37 rfl (by kernel_rfl)) rfl ?_
 exact ⟨_, _, rfl, HOF.out, HBF.out⟩
theorem FO.room {w : World} {base n y : Nat} {X : Option Addr} {F : List Int} (h : FO w base 60 3 (.slice X n y) n F) : n ≤ y := by
 obtain ⟨A, c, e, hc, _⟩ := h.reads
 simp only [Value.slice.injEq] at e
 obtain ⟨_, _, rfl⟩ := e
 exact hc
end Go.Proofs.Ytgdkffddcbjmmaa.U
set_option linter.unusedVariables false
set_option linter.unusedSimpArgs false
namespace Go.Proofs.Ytgdkffddcbjmmaa.U
open Go.RowKit Go.Lib Go.Proofs.YtgdkffddcbjmmaaW.PrintWords
theorem grown_bw {a b : World} {row : Option Nat} (h : Bw a b) : a.grownBy b row := grown_of_below h.out row
theorem Cn.put {w w' : World} {base : Nat} {κ : Nat → Nat} {c t k n g : Nat} {v : Value} {F : List Int} {cs : Array Value} {e : TypeId} (h : Cn w base κ c t k v n F) (hg : w.heap[g]? = some (.cells cs e (0, 0))) (hne : t ≠ e) (hw : Wi w w' g (g + 1)) : Cn w' base κ c t k v n F := ⟨FO.put h.o hg hne hw, h.col⟩
structure SK (w0 w : World) (g R Mb Sb base : Nat) (lv : Value) : Prop where
 hw0 : w0.heap.size ≤ w.heap.size
 hg : g < base
 wS : w.heap.size ≤ Sb
 wb : w.heap.size ≤ base
 Sg : Sb ≠ g
 Mg : Mb ≠ g
 Rg : R ≠ g
 SM : Sb ≠ Mb
 SR : Sb ≠ R
 hli : ∀ q, lv.ownBlock = some q → q < base
structure SD (w0 w W : World) (g R Mb Sb base : Nat) (κ : Nat → Nat) (ro : Int) (X : Option Addr) (n y : Nat) (l : List Ce) (mv tv bv : Value) (ms ts bd : List Int) : Prop where
 cur : Cur w0 W g
 st : W.heap[Sb]? = some (.cells #[.int .i64 ro, .slice X n y, mv, tv, bv] 39 (0, 0))
 me : W.heap[Mb]? = some (.cells #[.int .i64 ro, .slice X n y] 37 (0, 0))
 re : W.heap[R]? = some (.cells #[.int .i64 0, .slice none 0 0, .slice none 0 0, .slice none 0 0, .slice none 0 0] 39 (0, 0))
 li : FO W (g + 1) 60 3 (.slice X n y) n (idF l)
 m : Cn W base κ 1 3 1 mv ms.length ms
 t : Cn W base κ 2 3 1 tv ts.length ts
 b : Cn W base κ 3 3 1 bv bd.length bd
 gr : w.grownBy W (some g)
 sz : base ≤ W.heap.size
section
variable {w0 w W W' wd : World} {g R Mb Sb base : Nat} {κ : Nat → Nat} {ro : Int} {X : Option Addr} {n y : Nat} {l : List Ce} {mv tv bv v1 : Value} {ms ts bd : List Int}
theorem Cn.cur {c t k : Nat} {v : Value} {F : List Int} {m : Nat} (h : Cn W base κ c t k v m F) (hg : W.grownBy W' (some g)) (hb : g < base) : Cn W' base (paint κ W.heap.size 0) c t k v m F :=
 ⟨⟨own_other h.o.out hg (.inr fun e => by have := own_base h.o.out g e; omega)⟩, fun q hq => by
  rw [paint, if_neg (by have := h.hd q hq; omega)]
  exact h.col q hq⟩
theorem SD.draw (h : SD w0 w W g R Mb Sb base κ ro X n y l mv tv bv ms ts bd) (k : SK w0 w g R Mb Sb base (.slice X n y)) (hC0 : Cur w0 w g) (hC : Cur w0 W' g) (hg : W.grownBy W' (some g)) : SD w0 w W' g R Mb Sb base (paint κ W.heap.size 0) ro X n y l mv tv bv ms ts bd :=
 ⟨hC, blk_grown h.st hg (fun e => k.Sg (Option.some.inj e)), blk_grown h.me hg (fun e => k.Mg (Option.some.inj e)), blk_grown h.re hg (fun e => k.Rg (Option.some.inj e)), ⟨own_other h.li.out hg (.inr fun e => by have := own_base h.li.out g e; omega)⟩, h.m.cur hg k.hg, h.t.cur hg k.hg, h.b.cur hg k.hg,
  grown_cur hC0 hC (Nat.le_trans h.gr.size hg.size) (fun b hb hne => (hg.block b (by have := h.gr.size; omega) (fun e => hne (Option.some.inj e))).trans (h.gr.block b hb (fun e => hne (Option.some.inj e)))), Nat.le_trans h.sz hg.size⟩
theorem SD.bw (h : SD w0 w W g R Mb Sb base κ ro X n y l mv tv bv ms ts bd) (k : SK w0 w g R Mb Sb base (.slice X n y)) (hC0 : Cur w0 w g) (b : Bw W W') : SD w0 w W' g R Mb Sb base (paint κ W.heap.size 0) ro X n y l mv tv bv ms ts bd := h.draw k hC0 (h.cur.bw b) (grown_bw b)
end
end Go.Proofs.Ytgdkffddcbjmmaa.U
