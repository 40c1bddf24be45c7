
/- A state under way, drawn: its rows. -/
import Derived.Test.YtaemkneppphkmaaBl
import Derived.Test.YtaemkneppphkmaaDv
import Derived.Test.YtaemkneppphkmaaKn
set_option linter.unusedVariables false
set_option linter.unusedSimpArgs false
namespace Go.Proofs.Ytaemkneppphkmaa.U
open Go.RowKit Go.Lib Go.Proofs.YtaemkneppphkmaaW.PrintWords

theorem grown_bw {a b : World} {row : Option Nat} (h : Bw a b) : a.grownBy b row := grown_of_below h.out row
theorem Cn.put {w w' : World} {base : Nat} {κ : Nat → Nat} {c t k n g : Nat} {v : Value} {F : List Int} {cs : Array Value} {e : TypeId} (h : Cn w base κ c t k v n F) (hg : w.heap[g]? = some (.cells cs e (0, 0))) (hne : t ≠ e) (hw : Wi w w' g (g + 1)) : Cn w' base κ c t k v n F := ⟨FO.put h.o hg hne hw, h.col⟩
/-- the blocks of a state that is drawn: the cursor g, the result R, the mesh's box Mb, the state's box Sb, the rows from base on -/
structure SK (w0 w : World) (g R Mb Sb base : Nat) (lv : Value) : Prop where
  hw0 : w0.heap.size ≤ w.heap.size
  hg : g < base
  wS : w.heap.size ≤ Sb
  wb : w.heap.size ≤ base
  Sg : Sb ≠ g
  Mg : Mb ≠ g
  Rg : R ≠ g
  SM : Sb ≠ Mb
  SR : Sb ≠ R
  hli : ∀ q, lv.ownBlock = some q → q < base
structure SD (w0 w W : World) (g R Mb Sb base : Nat) (κ : Nat → Nat) (ro : Int) (X : Option Addr) (n y : Nat) (l : List Ce) (mv tv bv : Value) (ms ts bd : List Int) : Prop where
  cur : Cur w0 W g
  st : W.heap[Sb]? = some (.cells #[.int .i64 ro, .slice X n y, mv, tv, bv] 36 (0, 0))
  me : W.heap[Mb]? = some (.cells #[.int .i64 ro, .slice X n y] 26 (0, 0))
  re : W.heap[R]? = some (.cells #[.int .i64 0, .slice none 0 0, .slice none 0 0, .slice none 0 0, .slice none 0 0] 36 (0, 0))
  li : FO W (g + 1) 32 3 (.slice X n y) n (idF l)
  m : Cn W base κ 1 3 1 mv ms.length ms
  t : Cn W base κ 2 3 1 tv ts.length ts
  b : Cn W base κ 3 3 1 bv bd.length bd
  gr : w.grownBy W (some g)
  sz : base ≤ W.heap.size
section
variable {w0 w W W' wd : World} {g R Mb Sb base : Nat} {κ : Nat → Nat} {ro : Int} {X : Option Addr} {n y : Nat} {l : List Ce} {mv tv bv v1 : Value} {ms ts bd : List Int}
theorem Cn.cur {c t k : Nat} {v : Value} {F : List Int} {m : Nat} (h : Cn W base κ c t k v m F) (hg : W.grownBy W' (some g)) (hb : g < base) : Cn W' base (paint κ W.heap.size 0) c t k v m F :=
  ⟨⟨own_other h.o.out hg (.inr fun e => by have := own_base h.o.out g e; omega)⟩, fun q hq => by
    rw [paint, if_neg (by have := h.hd q hq; omega)]
    exact h.col q hq⟩
theorem SD.draw (h : SD w0 w W g R Mb Sb base κ ro X n y l mv tv bv ms ts bd) (k : SK w0 w g R Mb Sb base (.slice X n y)) (hC0 : Cur w0 w g) (hC : Cur w0 W' g) (hg : W.grownBy W' (some g)) : SD w0 w W' g R Mb Sb base (paint κ W.heap.size 0) ro X n y l mv tv bv ms ts bd :=
  ⟨hC, blk_grown h.st hg (fun e => k.Sg (Option.some.inj e)), blk_grown h.me hg (fun e => k.Mg (Option.some.inj e)), blk_grown h.re hg (fun e => k.Rg (Option.some.inj e)), ⟨own_other h.li.out hg (.inr fun e => by have := own_base h.li.out g e; omega)⟩, h.m.cur hg k.hg, h.t.cur hg k.hg, h.b.cur hg k.hg,
    grown_cur hC0 hC (Nat.le_trans h.gr.size hg.size) (fun b hb hne => (hg.block b (by have := h.gr.size; omega) (fun e => hne (Option.some.inj e))).trans (h.gr.block b hb (fun e => hne (Option.some.inj e)))), Nat.le_trans h.sz hg.size⟩
theorem SD.bw (h : SD w0 w W g R Mb Sb base κ ro X n y l mv tv bv ms ts bd) (k : SK w0 w g R Mb Sb base (.slice X n y)) (hC0 : Cur w0 w g) (b : Bw W W') : SD w0 w W' g R Mb Sb base (paint κ W.heap.size 0) ro X n y l mv tv bv ms ts bd := h.draw k hC0 (h.cur.bw b) (grown_bw b)
theorem SD.app_m (h : SD w0 w W g R Mb Sb base κ ro X n y l mv tv bv ms ts bd) (k : SK w0 w g R Mb Sb base (.slice X n y)) (hC0 : Cur w0 w g) {x : Int} (od : wd.ownsRow base 3 1 v1 (ms.length + 1) (nums .i64 ms ++ [.int .i64 x])) (hgd : W.grownBy wd mv.ownBlock) (had : v1.ownBlock = mv.ownBlock ∨ ∃ q, v1.ownBlock = some q ∧ W.heap.size ≤ q) :
    SD w0 w (wd.setCell ⟨Sb, 2, none⟩ v1) g R Mb Sb base (paint κ W.heap.size 1) ro X n y l v1 tv bv (ms ++ [x]) ts bd := by
  have hst := blk_grown h.st hgd (own_ne h.m.o.out h.st (by decide))
  have hme := blk_grown h.me hgd (own_ne h.m.o.out h.me (by decide))
  have hre := blk_grown h.re hgd (own_ne h.m.o.out h.re (by decide))
  have hC : Cur w0 wd g := h.cur.grow hgd (fun j e => Nat.lt_of_lt_of_le k.hg (own_base h.m.o.out j e))
  have c := Wi.put wd Sb 2 v1
  have oF : FO wd base 3 1 v1 (ms ++ [x]).length (ms ++ [x]) := ⟨by rw [nums_append, List.length_append]; exact od⟩
  have hC2 : Cur w0 (wd.setCell ⟨Sb, 2, none⟩ v1) g := hC.set (Nat.le_trans k.hw0 k.wS) k.Sg _ _
  have hli : FO wd (g + 1) 32 3 (.slice X n y) n (idF l) := ⟨own_other h.li.out hgd (by
    rcases own_base' h.m.o.out with e | ⟨q, e, hq⟩
    · rcases own_base' h.li.out with e1 | ⟨p, e1, _⟩
      · exact .inl e1
      · exact .inr (by rw [e, e1]; intro h; cases h)
    · refine .inr fun e2 => ?_
      have := k.hli q (by rw [e2, e])
      omega)⟩
  refine ⟨hC2, (blk_set hst 2 v1).trans rfl, (c.block Mb (blk_lt hme) (by have := k.SM; omega)).trans hme, (c.block R (blk_lt hre) (by have := k.SR; omega)).trans hre, FO.put hli hst (by decide) c, Cn.put (h.m.app oF had) hst (by decide) c, Cn.put (h.t.grown h.m (by decide) hgd 1) hst (by decide) c, Cn.put (h.b.grown h.m (by decide) hgd 1) hst (by decide) c, grown_cur hC0 hC2 (Nat.le_trans h.gr.size (Nat.le_trans hgd.size c.size)) (fun b hb hne => ?_), Nat.le_trans h.sz (Nat.le_trans hgd.size c.size)⟩
  exact (c.block b (by have := h.gr.size; have := hgd.size; omega) (by have := k.wS; omega)).trans ((hgd.block b (by have := h.gr.size; omega) (fun e => by have := own_base h.m.o.out b e.symm; have := k.wb; omega)).trans (h.gr.block b hb (fun e => hne (Option.some.inj e))))

theorem SD.app_t (h : SD w0 w W g R Mb Sb base κ ro X n y l mv tv bv ms ts bd) (k : SK w0 w g R Mb Sb base (.slice X n y)) (hC0 : Cur w0 w g) {x : Int} (od : wd.ownsRow base 3 1 v1 (ts.length + 1) (nums .i64 ts ++ [.int .i64 x])) (hgd : W.grownBy wd tv.ownBlock) (had : v1.ownBlock = tv.ownBlock ∨ ∃ q, v1.ownBlock = some q ∧ W.heap.size ≤ q) :
    SD w0 w (wd.setCell ⟨Sb, 3, none⟩ v1) g R Mb Sb base (paint κ W.heap.size 2) ro X n y l mv v1 bv ms (ts ++ [x]) bd := by
  have hst := blk_grown h.st hgd (own_ne h.t.o.out h.st (by decide))
  have hme := blk_grown h.me hgd (own_ne h.t.o.out h.me (by decide))
  have hre := blk_grown h.re hgd (own_ne h.t.o.out h.re (by decide))
  have hC : Cur w0 wd g := h.cur.grow hgd (fun j e => Nat.lt_of_lt_of_le k.hg (own_base h.t.o.out j e))
  have c := Wi.put wd Sb 3 v1
  have oF : FO wd base 3 1 v1 (ts ++ [x]).length (ts ++ [x]) := ⟨by rw [nums_append, List.length_append]; exact od⟩
  have hC2 : Cur w0 (wd.setCell ⟨Sb, 3, none⟩ v1) g := hC.set (Nat.le_trans k.hw0 k.wS) k.Sg _ _
  have hli : FO wd (g + 1) 32 3 (.slice X n y) n (idF l) := ⟨own_other h.li.out hgd (by
    rcases own_base' h.t.o.out with e | ⟨q, e, hq⟩
    · rcases own_base' h.li.out with e1 | ⟨p, e1, _⟩
      · exact .inl e1
      · exact .inr (by rw [e, e1]; intro h; cases h)
    · refine .inr fun e2 => ?_
      have := k.hli q (by rw [e2, e])
      omega)⟩
  refine ⟨hC2, (blk_set hst 3 v1).trans rfl, (c.block Mb (blk_lt hme) (by have := k.SM; omega)).trans hme, (c.block R (blk_lt hre) (by have := k.SR; omega)).trans hre, FO.put hli hst (by decide) c, Cn.put (h.m.grown h.t (by decide) hgd 2) hst (by decide) c, Cn.put (h.t.app oF had) hst (by decide) c, Cn.put (h.b.grown h.t (by decide) hgd 2) hst (by decide) c, grown_cur hC0 hC2 (Nat.le_trans h.gr.size (Nat.le_trans hgd.size c.size)) (fun b hb hne => ?_), Nat.le_trans h.sz (Nat.le_trans hgd.size c.size)⟩
  exact (c.block b (by have := h.gr.size; have := hgd.size; omega) (by have := k.wS; omega)).trans ((hgd.block b (by have := h.gr.size; omega) (fun e => by have := own_base h.t.o.out b e.symm; have := k.wb; omega)).trans (h.gr.block b hb (fun e => hne (Option.some.inj e))))

theorem SD.app_b (h : SD w0 w W g R Mb Sb base κ ro X n y l mv tv bv ms ts bd) (k : SK w0 w g R Mb Sb base (.slice X n y)) (hC0 : Cur w0 w g) {x : Int} (od : wd.ownsRow base 3 1 v1 (bd.length + 1) (nums .i64 bd ++ [.int .i64 x])) (hgd : W.grownBy wd bv.ownBlock) (had : v1.ownBlock = bv.ownBlock ∨ ∃ q, v1.ownBlock = some q ∧ W.heap.size ≤ q) :
    SD w0 w (wd.setCell ⟨Sb, 4, none⟩ v1) g R Mb Sb base (paint κ W.heap.size 3) ro X n y l mv tv v1 ms ts (bd ++ [x]) := by
  have hst := blk_grown h.st hgd (own_ne h.b.o.out h.st (by decide))
  have hme := blk_grown h.me hgd (own_ne h.b.o.out h.me (by decide))
  have hre := blk_grown h.re hgd (own_ne h.b.o.out h.re (by decide))
  have hC : Cur w0 wd g := h.cur.grow hgd (fun j e => Nat.lt_of_lt_of_le k.hg (own_base h.b.o.out j e))
  have c := Wi.put wd Sb 4 v1
  have oF : FO wd base 3 1 v1 (bd ++ [x]).length (bd ++ [x]) := ⟨by rw [nums_append, List.length_append]; exact od⟩
  have hC2 : Cur w0 (wd.setCell ⟨Sb, 4, none⟩ v1) g := hC.set (Nat.le_trans k.hw0 k.wS) k.Sg _ _
  have hli : FO wd (g + 1) 32 3 (.slice X n y) n (idF l) := ⟨own_other h.li.out hgd (by
    rcases own_base' h.b.o.out with e | ⟨q, e, hq⟩
    · rcases own_base' h.li.out with e1 | ⟨p, e1, _⟩
      · exact .inl e1
      · exact .inr (by rw [e, e1]; intro h; cases h)
    · refine .inr fun e2 => ?_
      have := k.hli q (by rw [e2, e])
      omega)⟩
  refine ⟨hC2, (blk_set hst 4 v1).trans rfl, (c.block Mb (blk_lt hme) (by have := k.SM; omega)).trans hme, (c.block R (blk_lt hre) (by have := k.SR; omega)).trans hre, FO.put hli hst (by decide) c, Cn.put (h.m.grown h.b (by decide) hgd 3) hst (by decide) c, Cn.put (h.t.grown h.b (by decide) hgd 3) hst (by decide) c, Cn.put (h.b.app oF had) hst (by decide) c, grown_cur hC0 hC2 (Nat.le_trans h.gr.size (Nat.le_trans hgd.size c.size)) (fun b hb hne => ?_), Nat.le_trans h.sz (Nat.le_trans hgd.size c.size)⟩
  exact (c.block b (by have := h.gr.size; have := hgd.size; omega) (by have := k.wS; omega)).trans ((hgd.block b (by have := h.gr.size; omega) (fun e => by have := own_base h.b.o.out b e.symm; have := k.wb; omega)).trans (h.gr.block b hb (fun e => hne (Option.some.inj e))))

end
set_option maxHeartbeats 4000000 in
theorem l05Mesh (w0 : World) (g : Nat) (w : World) (hC : Cur w0 w g) :
    Calls Try.prog 64 #[.pointer (some ⟨g, 0, none⟩)] w fun e w' => ∃ ro X n y l, e = .returned (.agg #[.int .i64 ro, .slice X n y]) ∧ isBal ro l = true ∧ (1 ≤ ro ∧ ro ≤ 3) ∧ FO w' (g + 1) 32 3 (.slice X n y) n (idF l) ∧ Cur w0 w' g ∧ w.grownBy w' (some g) := by
  have b0 := Bw.box1 w (.cells #[.int .i64 0, .slice none 0 0] 26)
  have hR := heap_alloc_new w (.cells #[.int .i64 0, .slice none 0 0] 26 (0, 0))
  have hC1 := hC.bw b0
  have hRg : w.heap.size ≠ g := by have := hC.at_lt; omega
  go_enter Try.func64, Try.ntmps64
  go_wp2_with fail
  generalize (w.alloc (.cells #[.int .i64 0, .slice none 0 0] 26)) = W1 at *
  refine (l04Mesh w0 g _ hC1).mono ?_
  rintro e w2 ⟨ro, X, n, y, l, rfl, hm, ho, hC2, hG2⟩
  have hR2 := blk_grown hR hG2 (fun e => hRg (Option.some.inj e))
  go_wp2_with fail
  refine (spec_Balance ro X n y l _ ho.idR ho.room hm.ok).mono ?_
  rintro e w3 ⟨X3, n3, y3, l3, rfl, ho3, hy3, hb3, b3⟩
  have hRk := (b3.out.block _ (blk_lt hR2)).trans hR2
  have hC3 := hC2.bw b3
  have ho := FO.less (base' := g + 1) ho3 (by have := hC2.at_lt; omega)
  have s0 := (blk_cell hRk 0).trans (show _ = some (Value.int .i64 0) from rfl)
  have s1 := (blk_cell hRk 1).trans (show _ = some (Value.slice none 0 0) from rfl)
  have f0 := blk_frozen hRk 0
  have f1 := blk_frozen hRk 1
  have HF := hid (show ((w3.setCell ⟨w.heap.size, 0, none⟩ (.int .i64 ro)).setCell ⟨w.heap.size, 1, none⟩ (.slice X3 n3 y3)).heap[w.heap.size]? = some (.cells #[.int .i64 ro, .slice X3 n3 y3] 26 (0, 0)) from blk_set (blk_set hRk 0 _) 1 _)
  have CF : Wi w3 ((w3.setCell ⟨w.heap.size, 0, none⟩ (.int .i64 ro)).setCell ⟨w.heap.size, 1, none⟩ (.slice X3 n3 y3)) w.heap.size (w.heap.size + 1) := ((Wi.refl w3 _ _).trans (Wi.put _ _ 0 _)).trans (Wi.put _ _ 1 _)
  have HOF := hid (FO.put ho hRk (by decide) CF)
  have HCF := hid ((hC3.set (M := w.heap.size) hC.below.size hRg 0 (.int .i64 ro)).set (M := w.heap.size) hC.below.size hRg 1 (.slice X3 n3 y3))
  have HGW := hid (grown_cur hC HCF.out (by have h1 := b0.size; have h2 := hG2.size; have h3 := b3.size; have h4 := CF.size; omega) (fun b hb hne => by
    have h1 := b0.size
    have h2 := hG2.size
    have h3 := b3.size
    exact (CF.block b (by omega) (by omega)).trans ((b3.out.block b (by omega)).trans ((hG2.block b (by omega) (fun e => hne (Option.some.inj e))).trans (b0.out.block b hb)))))
  have HB3 := hid hb3
  have HRNG := hid hm.rng
  clear CF hRk hR hR2 ho ho3 hC1 hC2 hC3 hG2 b3 b0 hb3 hm
  go_wp2
  refine bodyPost_ret (results_cell_row rfl _ _ w.heap.size 26 #[.int .i64 ro, .slice X3 n3 y3] (0, 0) _ rfl HF.out Try.underlying26 rfl (by kernel_rfl)) rfl ?_
  exact ⟨_, _, _, _, _, rfl, HB3.out, HRNG.out, HOF.out, HCF.out, HGW.out⟩
end Go.Proofs.Ytaemkneppphkmaa.U
