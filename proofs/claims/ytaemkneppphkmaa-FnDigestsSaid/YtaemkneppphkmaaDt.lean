
/- Trees of cells drawn: one row that grows. -/
import Derived.Test.YtaemkneppphkmaaSk
import Derived.Test.YtaemkneppphkmaaNw
import Derived.Test.YtaemkneppphkmaaG3
set_option linter.unusedVariables false
set_option linter.unusedSimpArgs false
namespace Go.Proofs.Ytaemkneppphkmaa.U
open Go.RowKit Go.Lib Go.Proofs.YtaemkneppphkmaaW.PrintWords

open Go.Proofs.YtaemkneppphkmaaW.PrintLast Go.Proofs.YtaemkneppphkmaaW.PrintMore
theorem meshEnd_app : ∀ (a b : List Ce) (s : Int), meshEnd (a ++ b) s = (meshEnd a s).bind (meshEnd b)
  | [], b, s => rfl
  | x :: xs, b, s => by
    rw [List.cons_append, meshEnd, meshEnd]
    split
    · exact meshEnd_app xs b _
    · rfl
theorem meshEnd_one {x : Ce} (h : ceOk x = true) : meshEnd [x] (ceAt x) = some (ceEnd x) := by
  rw [meshEnd, if_pos ⟨h, rfl⟩, meshEnd]
/-- a cell's children -/
def kid (x : Ce) (s : Int) : Ce := ⟨x.r, x.l + 1, 2 * x.i + s⟩
theorem kid_ok {x : Ce} (h : ceOk x = true) (hl : x.l < 4) (s : Int) (hs : 0 ≤ s ∧ s ≤ 1) : ceOk (kid x s) = true := by
  obtain ⟨h1, h2, h3, h4⟩ := ceOk_facts h
  simp only [ceOk, kid, Bool.and_eq_true, inR_iff]
  have hp : pow2 (x.l + 1) = 2 * pow2 x.l := by
    have : x.l = 0 ∨ x.l = 1 ∨ x.l = 2 ∨ x.l = 3 := by omega
    rcases this with e | e | e | e <;> rw [e] <;> rfl
  rw [hp]
  omega
theorem kid_at {x : Ce} (h : ceOk x = true) (hl : x.l < 4) : ceAt (kid x 0) = ceAt x ∧ ceEnd (kid x 0) = ceAt (kid x 1) ∧ ceEnd (kid x 1) = ceEnd x := by
  obtain ⟨h1, h2, h3, h4⟩ := ceOk_facts h
  have k0 := kid_ok h hl 0 (by omega)
  have k1 := kid_ok h hl 1 (by omega)
  have hw : wid x.l = 2 * wid (x.l + 1) := by
    have : x.l = 0 ∨ x.l = 1 ∨ x.l = 2 ∨ x.l = 3 := by omega
    rcases this with e | e | e | e <;> rw [e] <;> rfl
  simp only [ceEnd, ceAt, h, k0, k1, if_true]
  simp only [kid, hw]
  have : (2 * x.i + 0) * wid (x.l + 1) = x.i * (2 * wid (x.l + 1)) := by rw [Int.add_zero, Int.mul_comm 2 x.i, Int.mul_assoc]
  have h5 : (2 * x.i + 1) * wid (x.l + 1) = x.i * (2 * wid (x.l + 1)) + wid (x.l + 1) := by rw [Int.add_mul, Int.one_mul, Int.mul_comm 2 x.i, Int.mul_assoc]
  omega
/-- where child s begins, or the cell ends -/
def cutX (x : Ce) (s : Nat) : Int := if s = 0 then ceAt x else if s = 1 then ceAt (kid x 1) else ceEnd x
theorem cutX_kid {x : Ce} (h : ceOk x = true) (hl : x.l < 4) (s : Nat) (hs : s < 2) : ceAt (kid x s) = cutX x s ∧ ceEnd (kid x s) = cutX x (s + 1) := by
  obtain ⟨a, b, c⟩ := kid_at h hl
  have : s = 0 ∨ s = 1 := by omega
  rcases this with rfl | rfl
  · exact ⟨a, b⟩
  · exact ⟨rfl, c⟩
theorem Wi.put (w : World) (g i : Nat) (u : Value) : Wi w (w.setCell ⟨g, i, none⟩ u) g (g + 1) := ⟨rfl, rfl, rfl, by simp [World.setCell], fun k _ hn => Below.heap_setCell w ⟨g, i, none⟩ u k (fun e => hn (by simp at e; omega))⟩
/-- what may have turned: the cursor g, the block M, the row v -/
structure Keep (w w' : World) (g M : Nat) (v : Value) : Prop where
  size : w.heap.size ≤ w'.heap.size
  block : ∀ b, b < w.heap.size → b ≠ g → b ≠ M → v.ownBlock ≠ some b → w'.heap[b]? = w.heap[b]?
def OwnTo (w : World) (v v' : Value) : Prop := v'.ownBlock = v.ownBlock ∨ ∃ q, v'.ownBlock = some q ∧ w.heap.size ≤ q
/-- the row of cells in block M has grown by l' -/
structure Grew (w0 w w' : World) (g M : Nat) (ro : Int) (v v' : Value) (l l' : List Ce) : Prop where
  cur : Cur w0 w' g
  blk : w'.heap[M]? = some (.cells #[.int .i64 ro, v'] 26 (0, 0))
  row : FO w' (g + 1) 32 3 v' (l ++ l').length (idF (l ++ l'))
  own : OwnTo w v v'
  keep : Keep w w' g M v
section
variable {w0 w w1 w2 wd : World} {g M : Nat} {ro : Int} {v v1 v2 : Value} {l a b : List Ce} {x : Ce}
theorem Grew.trans (h : Grew w0 w w1 g M ro v v1 l a) (k : Grew w0 w1 w2 g M ro v1 v2 (l ++ a) b) : Grew w0 w w2 g M ro v v2 l (a ++ b) := by
  have hs := h.keep.size
  refine ⟨k.cur, k.blk, by rw [← List.append_assoc]; exact k.row, ?_, Nat.le_trans hs k.keep.size, fun q hq h1 h2 h3 => (k.keep.block q (by omega) h1 h2 fun e => ?_).trans (h.keep.block q hq h1 h2 h3)⟩
  · rcases k.own with e | ⟨q, e, hq⟩
    · rcases h.own with e2 | ⟨q, e2, hq⟩
      · exact .inl (e.trans e2)
      · exact .inr ⟨q, e.trans e2, hq⟩
    · exact .inr ⟨q, e, by omega⟩
  · rcases h.own with e2 | ⟨p, e2, hp⟩
    · exact h3 (e2.symm.trans e)
    · rw [e2] at e
      have := Option.some.inj e
      omega
theorem Grew.before (h : Grew w0 w1 w2 g M ro v v1 l a) (k : Bw w w1) (hv : ∀ q, v.ownBlock = some q → q < w.heap.size) : Grew w0 w w2 g M ro v v1 l a := by
  have hs := k.size
  refine ⟨h.cur, h.blk, h.row, ?_, Nat.le_trans hs h.keep.size, fun q hq h1 h2 h3 => (h.keep.block q (by omega) h1 h2 h3).trans (k.out.block q hq)⟩
  rcases h.own with e | ⟨q, e, hq⟩
  · exact .inl e
  · exact .inr ⟨q, e, by omega⟩
theorem Grew.after (h : Grew w0 w w1 g M ro v v1 l a) (k : Bw w1 w2) : Grew w0 w w2 g M ro v v1 l a :=
  ⟨h.cur.bw k, (k.out.block _ (blk_lt h.blk)).trans h.blk, h.row.to k, h.own, Nat.le_trans h.keep.size k.size, fun q hq h1 h2 h3 => (k.out.block q (Nat.lt_of_lt_of_le hq h.keep.size)).trans (h.keep.block q hq h1 h2 h3)⟩
theorem Grew.none (hC : Cur w0 w g) (hk : w.heap[M]? = some (.cells #[.int .i64 ro, v] 26 (0, 0))) (o : FO w (g + 1) 32 3 v l.length (idF l)) : Grew w0 w w g M ro v v l [] :=
  ⟨hC, hk, by rw [List.append_nil]; exact o, .inl rfl, Nat.le_refl _, fun _ _ _ _ _ => rfl⟩
theorem Grew.draw (hC : Cur w0 w1 g) (hg : w.grownBy w1 (some g)) (hMg : M ≠ g) (hk : w.heap[M]? = some (.cells #[.int .i64 ro, v] 26 (0, 0))) (o : FO w (g + 1) 32 3 v l.length (idF l)) : Grew w0 w w1 g M ro v v l [] :=
  ⟨hC, blk_grown hk hg (fun e => hMg (Option.some.inj e)), by rw [List.append_nil]; exact ⟨own_other o.out hg (.inr fun e => by have := own_base o.out g e; omega)⟩, .inl rfl, hg.size, fun q hq h1 h2 h3 => hg.block q hq (fun e => h1 (Option.some.inj e))⟩
theorem Grew.app (hC : Cur w0 w g) (hk : w.heap[M]? = some (.cells #[.int .i64 ro, v] 26 (0, 0))) (o : FO w (g + 1) 32 3 v l.length (idF l)) (od : wd.ownsRow (g + 1) 32 3 v1 (l.length + 1) (nums .i64 (idF l) ++ [.int .i64 x.r, .int .i64 x.l, .int .i64 x.i])) (hgd : w.grownBy wd v.ownBlock) (had : v1.ownBlock = v.ownBlock ∨ ∃ q, v1.ownBlock = some q ∧ w.heap.size ≤ q) (hM : w0.heap.size ≤ M) (hMg : M ≠ g) :
    Grew w0 w (wd.setCell ⟨M, 1, Option.none⟩ v1) g M ro v v1 l [x] := by
  have hkD := blk_grown hk hgd (own_ne o.out hk (by decide))
  have hCd : Cur w0 wd g := hC.grow hgd (fun j e => by have := own_base o.out j e; omega)
  have oF : FO wd (g + 1) 32 3 v1 (l ++ [x]).length (idF (l ++ [x])) := ⟨by
    have e : nums .i64 (idF (l ++ [x])) = nums .i64 (idF l) ++ [.int .i64 x.r, .int .i64 x.l, .int .i64 x.i] := by simp [idF, nums]
    rw [e, List.length_append]
    exact od⟩
  have hs : wd.heap.size ≤ (wd.setCell ⟨M, 1, Option.none⟩ v1).heap.size := by simp [World.setCell]
  refine ⟨hCd.set hM hMg _ _, (blk_set hkD 1 v1).trans rfl, ⟨own_move oF.out fun q hq => Below.heap_setCell wd ⟨M, 1, Option.none⟩ v1 q (fun e2 => own_ne oF.out hkD (by decide) (by simp at e2; rw [hq, e2]))⟩, had, Nat.le_trans hgd.size hs, fun q hq h1 h2 h3 => ?_⟩
  exact (Below.heap_setCell wd ⟨M, 1, Option.none⟩ v1 q (fun e => h2 (by simpa using e))).trans (hgd.block q hq (fun e => h3 e.symm))
theorem Grew.at (h : Grew w0 w w1 g M ro v v1 l a) {q : Nat} {o : Obj} (hq : w.heap[q]? = some o) (h1 : q ≠ g) (h2 : q ≠ M) (h3 : v.ownBlock ≠ some q) : w1.heap[q]? = some o := (h.keep.block q (blk_lt hq) h1 h2 h3).trans hq
end
set_option maxHeartbeats 4000000 in
theorem spec_ChildOf (x : Ce) (s : Nat) (w : World) (h : ceOk x = true) (hl : x.l < 4) (hs : s < 2) :
    Calls Try.prog 88 #[.agg #[.int .i64 x.r, .int .i64 x.l, .int .i64 x.i], .int .i64 s] w fun e w' => e = .returned (.tuple #[.agg #[.int .i64 (kid x s).r, .int .i64 (kid x s).l, .int .i64 (kid x s).i], .bool true]) ∧ Bw w w' := by
  obtain ⟨r, lv, ix⟩ := x
  obtain ⟨h1, h2, h3, h4⟩ := ceOk_facts h
  simp only at h1 h2 h3 h4 hl
  have b0 := (Bw.box1 w (.cells #[.int .i64 r, .int .i64 lv, .int .i64 ix] 32)).alloc (.cells #[.int .i64 0, .int .i64 0, .int .i64 0] 32)
  have g0 := box_cell ((Bw.refl (w.alloc (.cells #[.int .i64 r, .int .i64 lv, .int .i64 ix] 32))).alloc (.cells #[.int .i64 0, .int .i64 0, .int .i64 0] 32)) 0
  have g1 := box_cell ((Bw.refl (w.alloc (.cells #[.int .i64 r, .int .i64 lv, .int .i64 ix] 32))).alloc (.cells #[.int .i64 0, .int .i64 0, .int .i64 0] 32)) 1
  have g2 := box_cell ((Bw.refl (w.alloc (.cells #[.int .i64 r, .int .i64 lv, .int .i64 ix] 32))).alloc (.cells #[.int .i64 0, .int .i64 0, .int .i64 0] 32)) 2
  simp only [List.getElem?_toArray, List.getElem?_cons_zero, List.getElem?_cons_succ] at g0 g1 g2
  have H4 := heap_alloc_new (w.alloc (.cells #[.int .i64 r, .int .i64 lv, .int .i64 ix] 32)) (.cells #[.int .i64 0, .int .i64 0, .int .i64 0] 32 (0, 0))
  rw [show (w.alloc (.cells #[.int .i64 r, .int .i64 lv, .int .i64 ix] 32)).heap.size = w.heap.size + 1 by simp] at H4
  have t1 : (lv == 4) = false := by simp; omega
  have t2 : inR (s : Int) 0 1 = true := inR_iff.2 (by omega)
  have e1 : IntKind.i64.wrap (lv + 1) = lv + 1 := i64w (by omega) (by omega)
  have e2 : IntKind.i64.wrap (2 * ix) = 2 * ix := i64w (by omega) (by omega)
  have e3 : IntKind.i64.wrap (2 * ix + s) = 2 * ix + s := i64w (by omega) (by omega)
  have HH := hid h
  have HT := hid t2
  clear h t2 h1 h2 h3 h4 hl
  go_enter Try.func88, Try.ntmps88
  go_wp2_with fail
  generalize ((w.alloc (.cells #[.int .i64 r, .int .i64 lv, .int .i64 ix] 32)).alloc (.cells #[.int .i64 0, .int .i64 0, .int .i64 0] 32)) = w1 at *
  refine (spec_IdOk r lv ix _).mono ?_
  rintro e w2 ⟨rfl, b1⟩
  rw [HH.out]
  replace g0 := pw_cell_below b1.out g0
  replace g1 := pw_cell_below b1.out g1
  replace g2 := pw_cell_below b1.out g2
  replace H4 := (b1.out.block _ (blk_lt H4)).trans H4
  have b2 := b0.trans b1
  clear b1 b0
  go_wp2_with fail
  refine (l01In (s : Int) 0 1 _).mono ?_
  rintro e w3 ⟨rfl, rfl⟩
  rw [HT.out]
  have s0 := (blk_cell H4 0).trans (show _ = some (Value.int .i64 0) from rfl)
  have s1 := (blk_cell H4 1).trans (show _ = some (Value.int .i64 0) from rfl)
  have s2 := (blk_cell H4 2).trans (show _ = some (Value.int .i64 0) from rfl)
  have f0 := blk_frozen H4 0
  have f1 := blk_frozen H4 1
  have f2 := blk_frozen H4 2
  have HF := hid (show (((w2.setCell ⟨w.heap.size + 1, 0, none⟩ (.int .i64 r)).setCell ⟨w.heap.size + 1, 1, none⟩ (.int .i64 (lv + 1))).setCell ⟨w.heap.size + 1, 2, none⟩ (.int .i64 (2 * ix + s))).heap[w.heap.size + 1]? = some (.cells #[.int .i64 r, .int .i64 (lv + 1), .int .i64 (2 * ix + s)] 32 (0, 0)) from blk_set (blk_set (blk_set H4 0 (.int .i64 r)) 1 (.int .i64 (lv + 1))) 2 (.int .i64 (2 * ix + s)))
  have HB := hid (show Bw w (((w2.setCell ⟨w.heap.size + 1, 0, none⟩ (.int .i64 r)).setCell ⟨w.heap.size + 1, 1, none⟩ (.int .i64 (lv + 1))).setCell ⟨w.heap.size + 1, 2, none⟩ (.int .i64 (2 * ix + s))) from bw_set (bw_set (bw_set b2 (show w.heap.size ≤ w.heap.size + 1 by omega) 0 _) (show w.heap.size ≤ w.heap.size + 1 by omega) 1 _) (show w.heap.size ≤ w.heap.size + 1 by omega) 2 _)
  clear H4 b2
  go_wp2
  refine bodyPost_ret (v := .tuple #[.agg #[.int .i64 r, .int .i64 (lv + 1), .int .i64 (2 * ix + s)], .bool true]) ?_ rfl ⟨rfl, HB.out⟩
  exact results_ct (p := 4) (u := 5) rfl _ _ (w.heap.size + 1) 32 #[.int .i64 r, .int .i64 (lv + 1), .int .i64 (2 * ix + s)] (0, 0) _ rfl HF.out Try.underlying32 rfl (by kernel_rfl)
end Go.Proofs.Ytaemkneppphkmaa.U
