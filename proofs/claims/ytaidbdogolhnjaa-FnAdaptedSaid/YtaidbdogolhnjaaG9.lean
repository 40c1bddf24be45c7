
/- Trees of cells drawn: one row that grows. -/
import Derived.Test.YtaidbdogolhnjaaG21
import Derived.Test.YtaidbdogolhnjaaG7
import Derived.Test.YtaidbdogolhnjaaG3
import Derived.Test.YtaidbdogolhnjaaIa
import Derived.Test.YtaidbdogolhnjaaKn
set_option linter.unusedVariables false
set_option linter.unusedSimpArgs false
namespace Go.Proofs.Ytaidbdogolhnjaa.U
open Go.RowKit Go.Lib Go.Proofs.YtaidbdogolhnjaaW.PrintWords

open Go.Proofs.YtaidbdogolhnjaaW.PrintLast Go.Proofs.YtaidbdogolhnjaaW.PrintMore
theorem meshEnd_app : ∀ (a b : List Ce) (s : Int), meshEnd (a ++ b) s = (meshEnd a s).bind (meshEnd b)
  | [], b, s => rfl
  | x :: xs, b, s => by
    rw [List.cons_append, meshEnd, meshEnd]
    split
    · exact meshEnd_app xs b _
    · rfl
theorem meshEnd_one {x : Ce} (h : ceOk x = true) : meshEnd [x] (ceAt x) = some (ceEnd x) := by
  rw [meshEnd, if_pos ⟨h, rfl⟩, meshEnd]
/-- a cell's children -/
def kid (x : Ce) (s : Int) : Ce := ⟨x.r, x.l + 1, 2 * x.i + s⟩
theorem kid_ok {x : Ce} (h : ceOk x = true) (hl : x.l < 4) (s : Int) (hs : 0 ≤ s ∧ s ≤ 1) : ceOk (kid x s) = true := by
  obtain ⟨h1, h2, h3, h4⟩ := ceOk_facts h
  simp only [ceOk, kid, Bool.and_eq_true, inR_iff]
  have hp : pow2 (x.l + 1) = 2 * pow2 x.l := by
    have : x.l = 0 ∨ x.l = 1 ∨ x.l = 2 ∨ x.l = 3 := by omega
    rcases this with e | e | e | e <;> rw [e] <;> rfl
  rw [hp]
  omega
theorem kid_at {x : Ce} (h : ceOk x = true) (hl : x.l < 4) : ceAt (kid x 0) = ceAt x ∧ ceEnd (kid x 0) = ceAt (kid x 1) ∧ ceEnd (kid x 1) = ceEnd x := by
  obtain ⟨h1, h2, h3, h4⟩ := ceOk_facts h
  have k0 := kid_ok h hl 0 (by omega)
  have k1 := kid_ok h hl 1 (by omega)
  have hw : wid x.l = 2 * wid (x.l + 1) := by
    have : x.l = 0 ∨ x.l = 1 ∨ x.l = 2 ∨ x.l = 3 := by omega
    rcases this with e | e | e | e <;> rw [e] <;> rfl
  simp only [ceEnd, ceAt, h, k0, k1, if_true]
  simp only [kid, hw]
  have : (2 * x.i + 0) * wid (x.l + 1) = x.i * (2 * wid (x.l + 1)) := by rw [Int.add_zero, Int.mul_comm 2 x.i, Int.mul_assoc]
  have h5 : (2 * x.i + 1) * wid (x.l + 1) = x.i * (2 * wid (x.l + 1)) + wid (x.l + 1) := by rw [Int.add_mul, Int.one_mul, Int.mul_comm 2 x.i, Int.mul_assoc]
  omega
/-- where child s begins, or the cell ends -/
def cutX (x : Ce) (s : Nat) : Int := if s = 0 then ceAt x else if s = 1 then ceAt (kid x 1) else ceEnd x
theorem cutX_kid {x : Ce} (h : ceOk x = true) (hl : x.l < 4) (s : Nat) (hs : s < 2) : ceAt (kid x s) = cutX x s ∧ ceEnd (kid x s) = cutX x (s + 1) := by
  obtain ⟨a, b, c⟩ := kid_at h hl
  have : s = 0 ∨ s = 1 := by omega
  rcases this with rfl | rfl
  · exact ⟨a, b⟩
  · exact ⟨rfl, c⟩
theorem Wi.put (w : World) (g i : Nat) (u : Value) : Wi w (w.setCell ⟨g, i, none⟩ u) g (g + 1) := ⟨rfl, rfl, rfl, by simp [World.setCell], fun k _ hn => Below.heap_setCell w ⟨g, i, none⟩ u k (fun e => hn (by simp at e; omega))⟩
/-- what may have turned: the cursor g, the block M, the row v -/
structure Keep (w w' : World) (g M : Nat) (v : Value) : Prop where
  size : w.heap.size ≤ w'.heap.size
  block : ∀ b, b < w.heap.size → b ≠ g → b ≠ M → v.ownBlock ≠ some b → w'.heap[b]? = w.heap[b]?
def OwnTo (w : World) (v v' : Value) : Prop := v'.ownBlock = v.ownBlock ∨ ∃ q, v'.ownBlock = some q ∧ w.heap.size ≤ q
/-- the row of cells in block M has grown by l' -/
structure Grew (w0 w w' : World) (g M : Nat) (ro : Int) (v v' : Value) (l l' : List Ce) : Prop where
  cur : Cur w0 w' g
  blk : w'.heap[M]? = some (.cells #[.int .i64 ro, v'] 26 (0, 0))
  row : FO w' (g + 1) 58 3 v' (l ++ l').length (idF (l ++ l'))
  own : OwnTo w v v'
  keep : Keep w w' g M v
section
variable {w0 w w1 w2 wd : World} {g M : Nat} {ro : Int} {v v1 v2 : Value} {l a b : List Ce} {x : Ce}
theorem Grew.trans (h : Grew w0 w w1 g M ro v v1 l a) (k : Grew w0 w1 w2 g M ro v1 v2 (l ++ a) b) : Grew w0 w w2 g M ro v v2 l (a ++ b) := by
  have hs := h.keep.size
  refine ⟨k.cur, k.blk, by rw [← List.append_assoc]; exact k.row, ?_, Nat.le_trans hs k.keep.size, fun q hq h1 h2 h3 => (k.keep.block q (by omega) h1 h2 fun e => ?_).trans (h.keep.block q hq h1 h2 h3)⟩
  · rcases k.own with e | ⟨q, e, hq⟩
    · rcases h.own with e2 | ⟨q, e2, hq⟩
      · exact .inl (e.trans e2)
      · exact .inr ⟨q, e.trans e2, hq⟩
    · exact .inr ⟨q, e, by omega⟩
  · rcases h.own with e2 | ⟨p, e2, hp⟩
    · exact h3 (e2.symm.trans e)
    · rw [e2] at e
      have := Option.some.inj e
      omega
theorem Grew.before (h : Grew w0 w1 w2 g M ro v v1 l a) (k : Bw w w1) (hv : ∀ q, v.ownBlock = some q → q < w.heap.size) : Grew w0 w w2 g M ro v v1 l a := by
  have hs := k.size
  refine ⟨h.cur, h.blk, h.row, ?_, Nat.le_trans hs h.keep.size, fun q hq h1 h2 h3 => (h.keep.block q (by omega) h1 h2 h3).trans (k.out.block q hq)⟩
  rcases h.own with e | ⟨q, e, hq⟩
  · exact .inl e
  · exact .inr ⟨q, e, by omega⟩
theorem Grew.after (h : Grew w0 w w1 g M ro v v1 l a) (k : Bw w1 w2) : Grew w0 w w2 g M ro v v1 l a :=
  ⟨h.cur.bw k, (k.out.block _ (blk_lt h.blk)).trans h.blk, h.row.to k, h.own, Nat.le_trans h.keep.size k.size, fun q hq h1 h2 h3 => (k.out.block q (Nat.lt_of_lt_of_le hq h.keep.size)).trans (h.keep.block q hq h1 h2 h3)⟩
theorem Grew.none (hC : Cur w0 w g) (hk : w.heap[M]? = some (.cells #[.int .i64 ro, v] 26 (0, 0))) (o : FO w (g + 1) 58 3 v l.length (idF l)) : Grew w0 w w g M ro v v l [] :=
  ⟨hC, hk, by rw [List.append_nil]; exact o, .inl rfl, Nat.le_refl _, fun _ _ _ _ _ => rfl⟩
theorem Grew.draw (hC : Cur w0 w1 g) (hg : w.grownBy w1 (some g)) (hMg : M ≠ g) (hk : w.heap[M]? = some (.cells #[.int .i64 ro, v] 26 (0, 0))) (o : FO w (g + 1) 58 3 v l.length (idF l)) : Grew w0 w w1 g M ro v v l [] :=
  ⟨hC, blk_grown hk hg (fun e => hMg (Option.some.inj e)), by rw [List.append_nil]; exact ⟨own_other o.out hg (.inr fun e => by have := own_base o.out g e; omega)⟩, .inl rfl, hg.size, fun q hq h1 h2 h3 => hg.block q hq (fun e => h1 (Option.some.inj e))⟩
theorem Grew.app (hC : Cur w0 w g) (hk : w.heap[M]? = some (.cells #[.int .i64 ro, v] 26 (0, 0))) (o : FO w (g + 1) 58 3 v l.length (idF l)) (od : wd.ownsRow (g + 1) 58 3 v1 (l.length + 1) (nums .i64 (idF l) ++ [.int .i64 x.r, .int .i64 x.l, .int .i64 x.i])) (hgd : w.grownBy wd v.ownBlock) (had : v1.ownBlock = v.ownBlock ∨ ∃ q, v1.ownBlock = some q ∧ w.heap.size ≤ q) (hM : w0.heap.size ≤ M) (hMg : M ≠ g) :
    Grew w0 w (wd.setCell ⟨M, 1, Option.none⟩ v1) g M ro v v1 l [x] := by
  have hkD := blk_grown hk hgd (own_ne o.out hk (by decide))
  have hCd : Cur w0 wd g := hC.grow hgd (fun j e => by have := own_base o.out j e; omega)
  have oF : FO wd (g + 1) 58 3 v1 (l ++ [x]).length (idF (l ++ [x])) := ⟨by
    have e : nums .i64 (idF (l ++ [x])) = nums .i64 (idF l) ++ [.int .i64 x.r, .int .i64 x.l, .int .i64 x.i] := by simp [idF, nums]
    rw [e, List.length_append]
    exact od⟩
  have hs : wd.heap.size ≤ (wd.setCell ⟨M, 1, Option.none⟩ v1).heap.size := by simp [World.setCell]
  refine ⟨hCd.set hM hMg _ _, (blk_set hkD 1 v1).trans rfl, ⟨own_move oF.out fun q hq => Below.heap_setCell wd ⟨M, 1, Option.none⟩ v1 q (fun e2 => own_ne oF.out hkD (by decide) (by simp at e2; rw [hq, e2]))⟩, had, Nat.le_trans hgd.size hs, fun q hq h1 h2 h3 => ?_⟩
  exact (Below.heap_setCell wd ⟨M, 1, Option.none⟩ v1 q (fun e => h2 (by simpa using e))).trans (hgd.block q hq (fun e => h3 e.symm))
theorem Grew.at (h : Grew w0 w w1 g M ro v v1 l a) {q : Nat} {o : Obj} (hq : w.heap[q]? = some o) (h1 : q ≠ g) (h2 : q ≠ M) (h3 : v.ownBlock ≠ some q) : w1.heap[q]? = some o := (h.keep.block q (blk_lt hq) h1 h2 h3).trans hq
end
set_option maxHeartbeats 4000000 in
theorem spec_ChildOf (x : Ce) (s : Nat) (w : World) (h : ceOk x = true) (hl : x.l < 4) (hs : s < 2) :
    Calls Try.prog 68 #[.agg #[.int .i64 x.r, .int .i64 x.l, .int .i64 x.i], .int .i64 s] w fun e w' => e = .returned (.tuple #[.agg #[.int .i64 (kid x s).r, .int .i64 (kid x s).l, .int .i64 (kid x s).i], .bool true]) ∧ Bw w w' := by
  obtain ⟨r, lv, ix⟩ := x
  obtain ⟨h1, h2, h3, h4⟩ := ceOk_facts h
  simp only at h1 h2 h3 h4 hl
  have b0 := (Bw.box1 w (.cells #[.int .i64 r, .int .i64 lv, .int .i64 ix] 58)).alloc (.cells #[.int .i64 0, .int .i64 0, .int .i64 0] 58)
  have g0 := box_cell ((Bw.refl (w.alloc (.cells #[.int .i64 r, .int .i64 lv, .int .i64 ix] 58))).alloc (.cells #[.int .i64 0, .int .i64 0, .int .i64 0] 58)) 0
  have g1 := box_cell ((Bw.refl (w.alloc (.cells #[.int .i64 r, .int .i64 lv, .int .i64 ix] 58))).alloc (.cells #[.int .i64 0, .int .i64 0, .int .i64 0] 58)) 1
  have g2 := box_cell ((Bw.refl (w.alloc (.cells #[.int .i64 r, .int .i64 lv, .int .i64 ix] 58))).alloc (.cells #[.int .i64 0, .int .i64 0, .int .i64 0] 58)) 2
  simp only [List.getElem?_toArray, List.getElem?_cons_zero, List.getElem?_cons_succ] at g0 g1 g2
  have H4 := heap_alloc_new (w.alloc (.cells #[.int .i64 r, .int .i64 lv, .int .i64 ix] 58)) (.cells #[.int .i64 0, .int .i64 0, .int .i64 0] 58 (0, 0))
  rw [show (w.alloc (.cells #[.int .i64 r, .int .i64 lv, .int .i64 ix] 58)).heap.size = w.heap.size + 1 by simp] at H4
  have t1 : (lv == 4) = false := by simp; omega
  have t2 : inR (s : Int) 0 1 = true := inR_iff.2 (by omega)
  have e1 : IntKind.i64.wrap (lv + 1) = lv + 1 := i64w (by omega) (by omega)
  have e2 : IntKind.i64.wrap (2 * ix) = 2 * ix := i64w (by omega) (by omega)
  have e3 : IntKind.i64.wrap (2 * ix + s) = 2 * ix + s := i64w (by omega) (by omega)
  have HH := hid h
  have HT := hid t2
  clear h t2 h1 h2 h3 h4 hl
  go_enter Try.func68, Try.ntmps68
  go_wp2_with fail
  generalize ((w.alloc (.cells #[.int .i64 r, .int .i64 lv, .int .i64 ix] 58)).alloc (.cells #[.int .i64 0, .int .i64 0, .int .i64 0] 58)) = w1 at *
  refine (spec_IdOk r lv ix _).mono ?_
  rintro e w2 ⟨rfl, b1⟩
  rw [HH.out]
  replace g0 := pw_cell_below b1.out g0
  replace g1 := pw_cell_below b1.out g1
  replace g2 := pw_cell_below b1.out g2
  replace H4 := (b1.out.block _ (blk_lt H4)).trans H4
  have b2 := b0.trans b1
  clear b1 b0
  go_wp2_with fail
  refine (l01In (s : Int) 0 1 _).mono ?_
  rintro e w3 ⟨rfl, rfl⟩
  rw [HT.out]
  have s0 := (blk_cell H4 0).trans (show _ = some (Value.int .i64 0) from rfl)
  have s1 := (blk_cell H4 1).trans (show _ = some (Value.int .i64 0) from rfl)
  have s2 := (blk_cell H4 2).trans (show _ = some (Value.int .i64 0) from rfl)
  have f0 := blk_frozen H4 0
  have f1 := blk_frozen H4 1
  have f2 := blk_frozen H4 2
  have HF := hid (show (((w2.setCell ⟨w.heap.size + 1, 0, none⟩ (.int .i64 r)).setCell ⟨w.heap.size + 1, 1, none⟩ (.int .i64 (lv + 1))).setCell ⟨w.heap.size + 1, 2, none⟩ (.int .i64 (2 * ix + s))).heap[w.heap.size + 1]? = some (.cells #[.int .i64 r, .int .i64 (lv + 1), .int .i64 (2 * ix + s)] 58 (0, 0)) from blk_set (blk_set (blk_set H4 0 (.int .i64 r)) 1 (.int .i64 (lv + 1))) 2 (.int .i64 (2 * ix + s)))
  have HB := hid (show Bw w (((w2.setCell ⟨w.heap.size + 1, 0, none⟩ (.int .i64 r)).setCell ⟨w.heap.size + 1, 1, none⟩ (.int .i64 (lv + 1))).setCell ⟨w.heap.size + 1, 2, none⟩ (.int .i64 (2 * ix + s))) from bw_set (bw_set (bw_set b2 (show w.heap.size ≤ w.heap.size + 1 by omega) 0 _) (show w.heap.size ≤ w.heap.size + 1 by omega) 1 _) (show w.heap.size ≤ w.heap.size + 1 by omega) 2 _)
  clear H4 b2
  go_wp2
  refine bodyPost_ret (v := .tuple #[.agg #[.int .i64 r, .int .i64 (lv + 1), .int .i64 (2 * ix + s)], .bool true]) ?_ rfl ⟨rfl, HB.out⟩
  exact results_ct (p := 4) (u := 5) rfl _ _ (w.heap.size + 1) 58 #[.int .i64 r, .int .i64 (lv + 1), .int .i64 (2 * ix + s)] (0, 0) _ rfl HF.out Try.underlying58 rfl (by kernel_rfl)
end Go.Proofs.Ytaidbdogolhnjaa.U
set_option linter.unusedVariables false
set_option linter.unusedSimpArgs false
namespace Go.Proofs.Ytaidbdogolhnjaa.U
open Go.RowKit Go.Lib Go.Proofs.YtaidbdogolhnjaaW.PrintWords

open Go.Proofs.YtaidbdogolhnjaaW.PrintLast Go.Proofs.YtaidbdogolhnjaaW.PrintMore
set_option maxHeartbeats 8000000 in
set_option maxRecDepth 100000 in
theorem l04Root (w0 : World) (g M : Nat) (ro : Int) (hM : w0.heap.size ≤ M) (hMg : M ≠ g) : ∀ (d : Nat) (x : Ce) (ch : Int) (w : World) (v : Value) (l : List Ce), ceOk x = true → x.l + d = 4 → 0 ≤ ch → ch + d ≤ 100 → l.length + 32 * (d + 1) ≤ 1000000 → Cur w0 w g → w.heap[M]? = some (.cells #[.int .i64 ro, v] 26 (0, 0)) → FO w (g + 1) 58 3 v l.length (idF l) →
    Calls Try.prog 39 #[.pointer (some ⟨g, 0, none⟩), .agg #[.int .i64 x.r, .int .i64 x.l, .int .i64 x.i], .int .i64 ch, .pointer (some ⟨M, 1, none⟩)] w fun e w' => ∃ u v' l', e = .returned u ∧ Grew w0 w w' g M ro v v' l l' ∧ meshEnd l' (ceAt x) = some (ceEnd x) := by
  intro d
  induction d with
  | zero =>
    intro x ch w v l hx hd h0 h1 hl hC hk ho
    obtain ⟨r, lv, ix⟩ := x
    obtain rfl : lv = 4 := by simp only at hd; omega
    obtain ⟨X, y, rfl, hy, _⟩ := ho.reads
    have g0 := box_cell (Bw.refl (w.alloc (.cells #[.int .i64 r, .int .i64 4, .int .i64 ix] 58))) 0
    have g1 := box_cell (Bw.refl (w.alloc (.cells #[.int .i64 r, .int .i64 4, .int .i64 ix] 58))) 1
    have g2 := box_cell (Bw.refl (w.alloc (.cells #[.int .i64 r, .int .i64 4, .int .i64 ix] 58))) 2
    simp only [List.getElem?_toArray, List.getElem?_cons_zero, List.getElem?_cons_succ] at g0 g1 g2
    have b0 := Bw.box1 w (.cells #[.int .i64 r, .int .i64 4, .int .i64 ix] 58)
    have HX := hid hx
    have HC := hid (hC.bw b0)
    have HK := hid ((b0.out.block _ (blk_lt hk)).trans hk)
    have HO := hid (ho.to b0)
    have pM : (w.alloc (.cells #[.int .i64 r, .int .i64 4, .int .i64 ix] 58)).cell? ⟨M, 1, none⟩ = some (.slice X l.length y) := (blk_cell HK.out 1).trans rfl
    have HB0 := hid b0
    have HV := hid (fun q hq => own_lt ho.out q hq)
    clear hx hC hk ho b0 hd
    go_enter Try.func39, Try.ntmps39
    go_upto_region 1 with fail
    generalize hW1 : (w.alloc (.cells #[.int .i64 r, .int .i64 4, .int .i64 ix] 58)) = W1 at *
    go_wp2
    refine start_ (n := 9) (S := fun w' => w'.cell? ⟨w.heap.size, 0, none⟩ = some (.int .i64 r) ∧ w'.cell? ⟨w.heap.size, 1, none⟩ = some (.int .i64 4) ∧ w'.cell? ⟨w.heap.size, 2, none⟩ = some (.int .i64 ix) ∧ w'.cell? ⟨M, 1, none⟩ = some (.slice X l.length y)) (ds := [6, 8]) #[false, false, false, false, false, false, false, false, false] (by kernel_rfl) rfl rfl ⟨g0, g1, g2, pM⟩ (fun hHeld => ?_)
    refine pure_ (i := 0) (N := (some 20)) (v := ?_) (a' := ?_) #[true, false, false, false, false, false, false, false, false] rfl rfl (by kernel_rfl) (fun _ _ _ h => h) (Or.inl ⟨by rfl, ?_⟩) ?_ ?_
    rotate_left
    · intro w'
      go_simp
      with_reducible rfl
    rotate_left
    · simp only [Act.put, List.setIfInBounds_toArray, List.set_cons_zero, List.set_cons_succ, i64_w, i32_w]
      rfl
    refine pure_ (i := 1) (N := (some 21)) (v := ?_) (a' := ?_) #[true, true, false, false, false, false, false, false, false] rfl rfl (by kernel_rfl) (fun _ _ _ h => h) (Or.inl ⟨by rfl, ?_⟩) ?_ ?_
    rotate_left
    · intro w'
      go_simp
      with_reducible rfl
    rotate_left
    · simp only [Act.put, List.setIfInBounds_toArray, List.set_cons_zero, List.set_cons_succ, i64_w, i32_w]
      rfl
    refine pure_ (i := 2) (N := (some 22)) (v := ?_) (a' := ?_) #[true, true, true, false, false, false, false, false, false] rfl rfl (by kernel_rfl) (fun _ _ _ h => h) (Or.inl ⟨by rfl, ?_⟩) ?_ ?_
    rotate_left
    · intro w'
      go_simp
      with_reducible rfl
    rotate_left
    · simp only [Act.put, List.setIfInBounds_toArray, List.set_cons_zero, List.set_cons_succ, i64_w, i32_w]
      rfl
    refine take_ (i := 3) (N := (some 23)) (v := ?_) (a' := ?_) #[true, true, true, true, false, false, false, false, false] rfl rfl (by kernel_rfl) (fun _ _ _ h => h) (Or.inl ⟨by rfl, ?_⟩) hHeld ?_ ?_
    rotate_left
    · rintro w' ⟨s0, s1, s2, s3⟩
      go_simp
      with_reducible rfl
    rotate_left
    · simp only [Act.put, List.setIfInBounds_toArray, List.set_cons_zero, List.set_cons_succ, i64_w, i32_w]
      rfl
    refine take_ (i := 4) (N := (some 24)) (v := ?_) (a' := ?_) #[true, true, true, true, true, false, false, false, false] rfl rfl (by kernel_rfl) (fun _ _ _ h => h) (Or.inl ⟨by rfl, ?_⟩) hHeld ?_ ?_
    rotate_left
    · rintro w' ⟨s0, s1, s2, s3⟩
      go_simp
      with_reducible rfl
    rotate_left
    · simp only [Act.put, List.setIfInBounds_toArray, List.set_cons_zero, List.set_cons_succ, i64_w, i32_w]
      rfl
    clear hHeld
    have bD := Bw.drawn (a := W1) ⟨⟨1, rfl⟩⟩
    have hC9 := HC.out.bw bD
    have hk9 := (bD.out.block _ (blk_lt HK.out)).trans HK.out
    have ho9 := HO.out.to bD
    have bA := Bw.box1 (W1.drewN 1) (.cells #[.int .i64 r, .int .i64 4, .int .i64 ix] 58)
    have bDA := bD.trans bA
    refine one_ (i := 5) (N := (some 25)) #[true, true, true, true, true, true, false, false, false] rfl rfl (by kernel_rfl) (by decide) (fun K hK => ?_)
    refine value_ (w1 := ?_) (v := ?_) (by rfl) rfl ?_ ?_
    rotate_left 2
    · go_simp
      constructor
      · rfl
      · rfl
    refine hK.out _ _ ⟨pw_cell_below bDA.out g0, pw_cell_below bDA.out g1, pw_cell_below bDA.out g2, pw_cell_below bDA.out pM⟩ (fun _ => ?_)
    rename_i hJ_
    clear hJ_
    clear bA bDA
    clear hK K
    refine norm_ (a' := ?_) ?_ ?_
    rotate_left
    · show Act.put _ (some 25) _ = _
      simp only [Act.put, List.setIfInBounds_toArray, List.set_cons_zero, List.set_cons_succ, i64_w, i32_w]
      rfl
    refine last_ (i := 6) (N := (some 26)) #[true, true, true, true, true, true, true, false, false] rfl rfl (by kernel_rfl) (by decide) (fun K hK => ?_)
    refine step_append_cells (w0 := W1.drewN 1) (g + 1) (by rfl) (.tmp 23) (.tmp 25) 24 58 (.agg #[.int .i64 0, .int .i64 0, .int .i64 0]) 3 24 rfl Try.underlying24 info_id rfl (by decide) (by decide) (.slice X l.length y) l.length (nums .i64 (idF l)) [.int .i64 r, .int .i64 4, .int .i64 ix] rfl rfl rfl (by intro u hu; simp at hu; rcases hu with rfl | rfl | rfl <;> rfl) ho9.out (Below.refl _ _) (by have := hC9.at_lt; omega) (by omega) ?_
    intro v1 wd od hBd hgd had
    have hkD := blk_grown hk9 hgd (own_ne ho9.out hk9 (by decide))
    have hGR := Grew.app (x := ⟨r, 4, ix⟩) hC9 hk9 ho9 od hgd had hM hMg
    obtain ⟨X1, y1, hv1, _, _⟩ := hGR.row.reads
    rw [show (l ++ [(⟨r, 4, ix⟩ : Ce)]).length = l.length + 1 by simp] at hv1
    subst hv1
    refine hK.out _ _ ?_
    clear hK K
    refine norm_ (a' := ?_) ?_ ?_
    rotate_left
    · show Act.put _ (some 26) _ = _
      simp only [Act.put, List.setIfInBounds_toArray, List.set_cons_zero, List.set_cons_succ, i64_w, i32_w]
      rfl
    have HGR := hid (hGR.before bD (fun q hq => own_lt HO.out.out q hq))
    clear hGR hgd had od hBd
    refine pure_ (i := 7) (N := (some 27)) (v := ?_) (a' := ?_) #[true, true, true, true, true, true, true, true, false] rfl rfl (by kernel_rfl) (fun _ _ _ h => h) (Or.inl ⟨by rfl, ?_⟩) ?_ ?_
    rotate_left
    · intro w'
      go_simp
      with_reducible rfl
    rotate_left
    · simp only [Act.put, List.setIfInBounds_toArray, List.set_cons_zero, List.set_cons_succ, i64_w, i32_w]
      rfl
    refine last_ (i := 8) (N := none) #[true, true, true, true, true, true, true, true, true] rfl rfl (by kernel_rfl) (by decide) (fun K hK => ?_)
    have hs1 := (blk_cell hkD 1).trans (show _ = some (Value.slice X l.length y) from rfl)
    have hf1 := blk_frozen hkD 1
    clear hkD hk9 ho9 hC9 bD
    refine skip_ (w1 := ?_) (by rfl) rfl ?_ ?_
    rotate_left
    · go_simp
      rfl
    refine hK.out _ _ ?_
    clear hK K
    refine done_ (by kernel_rfl) ?_
    clear hs1 hf1
    go_wp2
    exact bodyPost_ret (v := .tuple #[]) (by simp [results, Try.results39, go_sem]) rfl ⟨_, _, _, rfl, HGR.out.before HB0.out HV.out, meshEnd_one HX.out⟩
  | succ d ih =>
    intro x ch w v l hx hd h0 h1 hl hC hk ho
    obtain ⟨r, lv, ix⟩ := x
    have hlv : lv < 4 := by simp only at hd; omega
    have t0 : (lv == 4) = false := by simp; omega
    obtain ⟨X, y, rfl, hy, _⟩ := ho.reads
    have g0 := box_cell (Bw.refl (w.alloc (.cells #[.int .i64 r, .int .i64 lv, .int .i64 ix] 58))) 0
    have g1 := box_cell (Bw.refl (w.alloc (.cells #[.int .i64 r, .int .i64 lv, .int .i64 ix] 58))) 1
    have g2 := box_cell (Bw.refl (w.alloc (.cells #[.int .i64 r, .int .i64 lv, .int .i64 ix] 58))) 2
    simp only [List.getElem?_toArray, List.getElem?_cons_zero, List.getElem?_cons_succ] at g0 g1 g2
    have b0 := Bw.box1 w (.cells #[.int .i64 r, .int .i64 lv, .int .i64 ix] 58)
    have HX := hid hx
    have HC1 := hid (hC.bw b0)
    have HK1 := hid ((b0.out.block _ (blk_lt hk)).trans hk)
    have HO1 := hid (ho.to b0)
    have HXB := hid (show (w.alloc (.cells #[.int .i64 r, .int .i64 lv, .int .i64 ix] 58)).heap[w.heap.size]? = some (.cells #[.int .i64 r, .int .i64 lv, .int .i64 ix] 58 (0, 0)) from heap_alloc_new w _)
    have HD := hid (show lv + ((d : Int) + 1) = 4 by simp only at hd; omega)
    have HXN := hid (show w.heap.size ≠ g ∧ w.heap.size ≠ M ∧ (Value.slice X l.length y).ownBlock ≠ some w.heap.size from ⟨by have := hC.at_lt; omega, by have := blk_lt hk; omega, fun e => by have := own_lt ho.out _ e; omega⟩)
    have HB0 := hid b0
    have HV := hid (fun q hq => own_lt ho.out q hq)
    clear hC hk ho b0 hd
    go_enter Try.func39, Try.ntmps39
    go_wp2_with fail
    generalize hW1 : (w.alloc (.cells #[.int .i64 r, .int .i64 lv, .int .i64 ix] 58)) = W1 at *
    refine (l01Once w0 g ch _ HC1.out).mono ?_
    rintro e w2 ⟨⟨b, rfl⟩, hC2, hG2⟩
    have hGr := Grew.draw hC2 hG2 hMg HK1.out HO1.out
    have hXB2 := hGr.at HXB.out HXN.out.1 HXN.out.2.1 HXN.out.2.2
    replace g0 : w2.cell? ⟨w.heap.size, 0, none⟩ = some (.int .i64 r) := (blk_cell hXB2 0).trans rfl
    replace g1 : w2.cell? ⟨w.heap.size, 1, none⟩ = some (.int .i64 lv) := (blk_cell hXB2 1).trans rfl
    replace g2 : w2.cell? ⟨w.heap.size, 2, none⟩ = some (.int .i64 ix) := (blk_cell hXB2 2).trans rfl
    cases b with
    | false =>
      have HC := hid hGr.cur
      have HK := hid hGr.blk
      have HO := hid (show FO w2 (g + 1) 58 3 (.slice X l.length y) l.length (idF l) by have h := hGr.row; rwa [List.append_nil] at h)
      have pM : w2.cell? ⟨M, 1, none⟩ = some (.slice X l.length y) := (blk_cell HK.out 1).trans rfl
      have HGD := hid hGr
      clear hC2 hG2 hGr hXB2 hx
      go_wp2
      refine start_ (n := 9) (S := fun w' => w'.cell? ⟨w.heap.size, 0, none⟩ = some (.int .i64 r) ∧ w'.cell? ⟨w.heap.size, 1, none⟩ = some (.int .i64 lv) ∧ w'.cell? ⟨w.heap.size, 2, none⟩ = some (.int .i64 ix) ∧ w'.cell? ⟨M, 1, none⟩ = some (.slice X l.length y)) (ds := [6, 8]) #[false, false, false, false, false, false, false, false, false] (by kernel_rfl) rfl rfl ⟨g0, g1, g2, pM⟩ (fun hHeld => ?_)
      refine pure_ (i := 0) (N := (some 20)) (v := ?_) (a' := ?_) #[true, false, false, false, false, false, false, false, false] rfl rfl (by kernel_rfl) (fun _ _ _ h => h) (Or.inl ⟨by rfl, ?_⟩) ?_ ?_
      rotate_left
      · intro w'
        go_simp
        with_reducible rfl
      rotate_left
      · simp only [Act.put, List.setIfInBounds_toArray, List.set_cons_zero, List.set_cons_succ, i64_w, i32_w]
        rfl
      refine pure_ (i := 1) (N := (some 21)) (v := ?_) (a' := ?_) #[true, true, false, false, false, false, false, false, false] rfl rfl (by kernel_rfl) (fun _ _ _ h => h) (Or.inl ⟨by rfl, ?_⟩) ?_ ?_
      rotate_left
      · intro w'
        go_simp
        with_reducible rfl
      rotate_left
      · simp only [Act.put, List.setIfInBounds_toArray, List.set_cons_zero, List.set_cons_succ, i64_w, i32_w]
        rfl
      refine pure_ (i := 2) (N := (some 22)) (v := ?_) (a' := ?_) #[true, true, true, false, false, false, false, false, false] rfl rfl (by kernel_rfl) (fun _ _ _ h => h) (Or.inl ⟨by rfl, ?_⟩) ?_ ?_
      rotate_left
      · intro w'
        go_simp
        with_reducible rfl
      rotate_left
      · simp only [Act.put, List.setIfInBounds_toArray, List.set_cons_zero, List.set_cons_succ, i64_w, i32_w]
        rfl
      refine take_ (i := 3) (N := (some 23)) (v := ?_) (a' := ?_) #[true, true, true, true, false, false, false, false, false] rfl rfl (by kernel_rfl) (fun _ _ _ h => h) (Or.inl ⟨by rfl, ?_⟩) hHeld ?_ ?_
      rotate_left
      · rintro w' ⟨s0, s1, s2, s3⟩
        go_simp
        with_reducible rfl
      rotate_left
      · simp only [Act.put, List.setIfInBounds_toArray, List.set_cons_zero, List.set_cons_succ, i64_w, i32_w]
        rfl
      refine take_ (i := 4) (N := (some 24)) (v := ?_) (a' := ?_) #[true, true, true, true, true, false, false, false, false] rfl rfl (by kernel_rfl) (fun _ _ _ h => h) (Or.inl ⟨by rfl, ?_⟩) hHeld ?_ ?_
      rotate_left
      · rintro w' ⟨s0, s1, s2, s3⟩
        go_simp
        with_reducible rfl
      rotate_left
      · simp only [Act.put, List.setIfInBounds_toArray, List.set_cons_zero, List.set_cons_succ, i64_w, i32_w]
        rfl
      clear hHeld
      have bD := Bw.drawn (a := w2) ⟨⟨1, rfl⟩⟩
      have hC9 := HC.out.bw bD
      have hk9 := (bD.out.block _ (blk_lt HK.out)).trans HK.out
      have ho9 := HO.out.to bD
      have bA := Bw.box1 (w2.drewN 1) (.cells #[.int .i64 r, .int .i64 lv, .int .i64 ix] 58)
      have bDA := bD.trans bA
      refine one_ (i := 5) (N := (some 25)) #[true, true, true, true, true, true, false, false, false] rfl rfl (by kernel_rfl) (by decide) (fun K hK => ?_)
      refine value_ (w1 := ?_) (v := ?_) (by rfl) rfl ?_ ?_
      rotate_left 2
      · go_simp
        constructor
        · rfl
        · rfl
      refine hK.out _ _ ⟨pw_cell_below bDA.out g0, pw_cell_below bDA.out g1, pw_cell_below bDA.out g2, pw_cell_below bDA.out pM⟩ (fun _ => ?_)
      rename_i hJ_
      clear hJ_
      clear bA bDA
      clear hK K
      refine norm_ (a' := ?_) ?_ ?_
      rotate_left
      · show Act.put _ (some 25) _ = _
        simp only [Act.put, List.setIfInBounds_toArray, List.set_cons_zero, List.set_cons_succ, i64_w, i32_w]
        rfl
      refine last_ (i := 6) (N := (some 26)) #[true, true, true, true, true, true, true, false, false] rfl rfl (by kernel_rfl) (by decide) (fun K hK => ?_)
      refine step_append_cells (w0 := w2.drewN 1) (g + 1) (by rfl) (.tmp 23) (.tmp 25) 24 58 (.agg #[.int .i64 0, .int .i64 0, .int .i64 0]) 3 24 rfl Try.underlying24 info_id rfl (by decide) (by decide) (.slice X l.length y) l.length (nums .i64 (idF l)) [.int .i64 r, .int .i64 lv, .int .i64 ix] rfl rfl rfl (by intro u hu; simp at hu; rcases hu with rfl | rfl | rfl <;> rfl) ho9.out (Below.refl _ _) (by have := hC9.at_lt; omega) (by omega) ?_
      intro v1 wd od hBd hgd had
      have hkD := blk_grown hk9 hgd (own_ne ho9.out hk9 (by decide))
      have hGR := Grew.app (x := ⟨r, lv, ix⟩) hC9 hk9 ho9 od hgd had hM hMg
      obtain ⟨X1, y1, hv1, _, _⟩ := hGR.row.reads
      rw [show (l ++ [(⟨r, lv, ix⟩ : Ce)]).length = l.length + 1 by simp] at hv1
      subst hv1
      refine hK.out _ _ ?_
      clear hK K
      refine norm_ (a' := ?_) ?_ ?_
      rotate_left
      · show Act.put _ (some 26) _ = _
        simp only [Act.put, List.setIfInBounds_toArray, List.set_cons_zero, List.set_cons_succ, i64_w, i32_w]
        rfl
      have HGR := hid (hGR.before bD (fun q hq => own_lt HO.out.out q hq))
      clear hGR hgd had od hBd
      refine pure_ (i := 7) (N := (some 27)) (v := ?_) (a' := ?_) #[true, true, true, true, true, true, true, true, false] rfl rfl (by kernel_rfl) (fun _ _ _ h => h) (Or.inl ⟨by rfl, ?_⟩) ?_ ?_
      rotate_left
      · intro w'
        go_simp
        with_reducible rfl
      rotate_left
      · simp only [Act.put, List.setIfInBounds_toArray, List.set_cons_zero, List.set_cons_succ, i64_w, i32_w]
        rfl
      refine last_ (i := 8) (N := none) #[true, true, true, true, true, true, true, true, true] rfl rfl (by kernel_rfl) (by decide) (fun K hK => ?_)
      have hs1 := (blk_cell hkD 1).trans (show _ = some (Value.slice X l.length y) from rfl)
      have hf1 := blk_frozen hkD 1
      clear hkD hk9 ho9 hC9 bD
      refine skip_ (w1 := ?_) (by rfl) rfl ?_ ?_
      rotate_left
      · go_simp
        rfl
      refine hK.out _ _ ?_
      clear hK K
      refine done_ (by kernel_rfl) ?_
      clear hs1 hf1
      go_wp2
      exact bodyPost_ret (v := .tuple #[]) (by simp [results, Try.results39, go_sem]) rfl ⟨_, _, _, rfl, (HGD.out.trans (by rw [List.append_nil]; exact HGR.out)).before HB0.out HV.out, meshEnd_one HX.out⟩
    | true =>
      have HGD := hid hGr
      clear hC2 hG2 hGr hXB2 hx
      go_wp2
      go_loopw [8] (fun v8 wr => ∃ (s : Nat) (v' : Value) (l' : List Ce), s ≤ 2 ∧ v8 = .int .i64 s ∧ Hid (Grew w0 W1 wr g M ro (.slice X l.length y) v' l l') ∧ Hid (meshEnd l' (ceAt ⟨r, lv, ix⟩) = some (cutX ⟨r, lv, ix⟩ s))) (fun v8 _ => 2 - (intOf v8).toNat)
      case atStart => exact ⟨0, _, [], by omega, rfl, HGD, hid rfl⟩
      case round =>
        obtain ⟨s, v', l', hs, rfl, hGr, hme⟩ := hrel
        have hXB2 := hGr.out.at HXB.out HXN.out.1 HXN.out.2.1 HXN.out.2.2
        replace g0 : wr.cell? ⟨w.heap.size, 0, none⟩ = some (.int .i64 r) := (blk_cell hXB2 0).trans rfl
        replace g1 : wr.cell? ⟨w.heap.size, 1, none⟩ = some (.int .i64 lv) := (blk_cell hXB2 1).trans rfl
        replace g2 : wr.cell? ⟨w.heap.size, 2, none⟩ = some (.int .i64 ix) := (blk_cell hXB2 2).trans rfl
        clear hXB2
        by_cases hlt : s < 2
        · have t1 : decide ((s : Int) < 2) = true := decide_eq_true (by omega)
          go_wp2_with fail
          refine (spec_ChildOf ⟨r, lv, ix⟩ s _ HX.out hlv hlt).mono ?_
          rintro e w3 ⟨rfl, b3⟩
          have hk := kid_ok HX.out hlv s (by omega)
          have hkc := cutX_kid HX.out hlv s hlt
          have hlen : l'.length ≤ 16 := by
            have h2 := meshEnd_len _ _ _ hme.out
            have h3 : cutX ⟨r, lv, ix⟩ s ≤ ceAt ⟨r, lv, ix⟩ + 16 := by
              have h4 := kid_at HX.out hlv
              have h5 := wid_range lv
              have h6 := wid_range (lv + 1)
              have h7 : ceEnd ⟨r, lv, ix⟩ = ceAt ⟨r, lv, ix⟩ + wid lv := rfl
              have h8 : ceEnd (kid ⟨r, lv, ix⟩ 1) = ceAt (kid ⟨r, lv, ix⟩ 1) + wid (lv + 1) := rfl
              unfold cutX
              (repeat' split) <;> omega
            omega
          obtain ⟨q0, q1, q2, hq⟩ : ∃ q0 q1 q2, kid ⟨r, lv, ix⟩ s = ⟨q0, q1, q2⟩ := ⟨_, _, _, rfl⟩
          have hql : q1 = lv + 1 := by have := congrArg Ce.l hq; exact this.symm
          rw [hq] at hk hkc ⊢
          have bX := b3.trans (Bw.box1 w3 (.cells #[.int .i64 q0, .int .i64 q1, .int .i64 q2] 58))
          have c0 := box_cell (Bw.refl (w3.alloc (.cells #[.int .i64 q0, .int .i64 q1, .int .i64 q2] 58))) 0
          have c1 := box_cell (Bw.refl (w3.alloc (.cells #[.int .i64 q0, .int .i64 q1, .int .i64 q2] 58))) 1
          have c2 := box_cell (Bw.refl (w3.alloc (.cells #[.int .i64 q0, .int .i64 q1, .int .i64 q2] 58))) 2
          simp only [List.getElem?_toArray, List.getElem?_cons_zero, List.getElem?_cons_succ] at c0 c1 c2
          have HKID := hid hk
          have HKC := hid hkc
          have HQL := hid hql
          have HAF := hid (hGr.out.after bX)
          have ec : IntKind.i64.wrap (ch + 1) = ch + 1 := i64w (by omega) (by omega)
          clear hk hkc hq hql b3 bX
          go_wp2_with fail
          have hL : (l ++ l').length = l.length + l'.length := List.length_append
          refine (ih ⟨q0, q1, q2⟩ (ch + 1) _ v' (l ++ l') HKID.out (by have h1 := HQL.out; have h2 := HD.out; show q1 + (d : Int) = 4; omega) (by omega) (by omega) (by omega) HAF.out.cur HAF.out.blk HAF.out.row).mono ?_
          rintro e w4 ⟨u, v2, l2, rfl, hG4, hm4⟩
          have HG4 := hid (HAF.out.trans hG4)
          have HM4 := hid (show meshEnd (l' ++ l2) (ceAt ⟨r, lv, ix⟩) = some (cutX ⟨r, lv, ix⟩ (s + 1)) by
            rw [meshEnd_app, hme.out]
            show meshEnd l2 _ = _
            rw [← HKC.out.1, ← HKC.out.2]
            exact hm4)
          clear hG4 hm4
          go_wp2
          go_roundw
          case rel => exact ⟨s + 1, _, _, by omega, by go_num, HG4, HM4⟩
          case measure => simp [intOf]; omega
        · obtain rfl : s = 2 := by omega
          have t1 : decide (((2 : Nat) : Int) < 2) = false := decide_eq_false (by omega)
          go_wp2
          exact bodyPost_end (v := .tuple #[]) (by simp [results, Try.results39, go_sem]) rfl ⟨_, _, _, rfl, hGr.out.before HB0.out HV.out, hme.out⟩
theorem grown_cur {w0 w w' : World} {g : Nat} (h : Cur w0 w g) (k : Cur w0 w' g) (hs : w.heap.size ≤ w'.heap.size) (hb : ∀ b, b < w.heap.size → b ≠ g → w'.heap[b]? = w.heap[b]?) : w.grownBy w' (some g) :=
  ⟨k.below.os.trans h.below.os.symm, k.below.tape.trans h.below.tape.symm, k.below.output.trans h.below.output.symm, hs, fun b hb1 hne => hb b hb1 (fun e => hne (by rw [e]))⟩
/-- a mesh drawn -/
structure MeshD (ro : Int) (l : List Ce) : Prop where
  rng : 1 ≤ ro ∧ ro ≤ 3
  en : meshEnd l 0 = some (ro * 16)
theorem MeshD.ok {ro : Int} {l : List Ce} (h : MeshD ro l) : meshOk ro l = true := by
  rw [meshOk, h.en, endIs_some (inR_iff.2 (by have := h.rng; omega))]
  simp
set_option maxHeartbeats 8000000 in
set_option maxRecDepth 100000 in
theorem l04Mesh (w0 : World) (g : Nat) (w : World) (hC : Cur w0 w g) :
    Calls Try.prog 78 #[.pointer (some ⟨g, 0, none⟩)] w fun e w' => ∃ ro X n y l, e = .returned (.agg #[.int .i64 ro, .slice X n y]) ∧ MeshD ro l ∧ FO w' (g + 1) 58 3 (.slice X n y) n (idF l) ∧ Cur w0 w' g ∧ w.grownBy w' (some g) := by
  have b0 := Bw.box1 w (.cells #[.int .i64 0, .slice none 0 0] 26)
  have hR := heap_alloc_new w (.cells #[.int .i64 0, .slice none 0 0] 26 (0, 0))
  have hC1 := hC.bw b0
  have hRg : w.heap.size ≠ g := by have := hC.at_lt; omega
  go_enter Try.func78, Try.ntmps78
  go_wp2_with fail
  generalize (w.alloc (.cells #[.int .i64 0, .slice none 0 0] 26)) = W1 at *
  refine (l01Below w0 g 3 _ hC1).mono ?_
  rintro e w2 ⟨⟨x, rfl, x1, x2⟩, hC2, hG2⟩
  have hx3 := x2 (by omega)
  have HR := hid (blk_grown hR hG2 (fun e => hRg (Option.some.inj e)))
  have e1 : IntKind.i64.wrap (1 + x) = 1 + x := i64w (by omega) (by omega)
  obtain ⟨ro, hro⟩ : ∃ ro, 1 + x = ro := ⟨_, rfl⟩
  rw [hro] at e1
  have hro2 : 1 ≤ ro ∧ ro ≤ 3 := by omega
  have bM := Bw.box1 w2 (.cells #[.int .i64 ro, .slice none 0 0] 26)
  have HC3 := hid (hC2.bw bM)
  have hk3 := heap_alloc_new w2 (.cells #[.int .i64 ro, .slice none 0 0] 26 (0, 0))
  have HM := hid (show w0.heap.size ≤ w2.heap.size ∧ w2.heap.size ≠ g ∧ w.heap.size ≠ w2.heap.size ∧ w.heap.size < w2.heap.size from ⟨hC2.below.size, by have := hC2.at_lt; omega, by have := blk_lt HR.out; omega, blk_lt HR.out⟩)
  have hG0 := hid (Grew.none (l := []) HC3.out hk3 (FO.nil _ _ _ _))
  have HR3 := hid ((bM.out.block _ (blk_lt HR.out)).trans HR.out)
  have HBW := hid b0
  have HG2 := hid hG2
  have HBM := hid bM
  have HRG := hid hRg
  clear hR hC1 hC2 hG2 bM hk3 b0 x2 hRg
  go_wp2
  generalize hWM : (w2.alloc (.cells #[.int .i64 ro, .slice none 0 0] 26)) = W3 at *
  go_loopw [4] (fun v4 wr => ∃ (r : Nat) (v' : Value) (l' : List Ce), (r : Int) ≤ ro ∧ v4 = .int .i64 r ∧ Hid (Grew w0 W3 wr g w2.heap.size ro (.slice none 0 0) v' [] l') ∧ Hid (meshEnd l' 0 = some ((r : Int) * 16))) (fun v4 _ => 4 - (intOf v4).toNat)
  case atStart => exact ⟨0, _, [], by omega, rfl, hG0, hid rfl⟩
  case round =>
    obtain ⟨r, v', l', hr, rfl, hGr, hme⟩ := hrel
    obtain ⟨X, y, hv, hy, _⟩ := hGr.out.row.reads
    rw [List.nil_append] at hv
    subst hv
    have g0 : wr.cell? ⟨w2.heap.size, 0, none⟩ = some (.int .i64 ro) := (blk_cell hGr.out.blk 0).trans rfl
    have g1 : wr.cell? ⟨w2.heap.size, 1, none⟩ = some (.slice X l'.length y) := (blk_cell hGr.out.blk 1).trans rfl
    have hl48 : l'.length ≤ 48 := by
      have := meshEnd_len _ _ _ hme.out
      omega
    by_cases hlt : (r : Int) < ro
    · have t1 : decide ((r : Int) < ro) = true := decide_eq_true hlt
      go_wp2_with fail
      refine (l01Below w0 g 2 _ hGr.out.cur).mono ?_
      rintro e w4 ⟨⟨z, rfl, z1, z2⟩, hC4, hG4⟩
      have hz := z2 (by omega)
      have ez : IntKind.i64.wrap (1 + z) = 1 + z := i64w (by omega) (by omega)
      have HGD := hid (Grew.draw hC4 hG4 HM.out.2.1 hGr.out.blk hGr.out.row)
      clear hC4 hG4 z2
      have hok : ceOk ⟨r, 0, 0⟩ = true := by
        simp only [ceOk, Bool.and_eq_true, inR_iff]
        refine ⟨⟨by omega, by omega⟩, by omega, ?_⟩
        show (0 : Int) ≤ pow2 0 - 1
        decide
      have hat : ceAt ⟨r, 0, 0⟩ = (r : Int) * 16 ∧ ceEnd ⟨r, 0, 0⟩ = ((r + 1 : Nat) : Int) * 16 := by
        have h1 : ceAt ⟨r, 0, 0⟩ = (r : Int) * 16 := by rw [ceAt, if_pos hok]; simp
        refine ⟨h1, ?_⟩
        rw [ceEnd, h1]
        show (r : Int) * 16 + wid 0 = _
        rw [show wid 0 = 16 from rfl]
        omega
      have HOK := hid hok
      have HAT := hid hat
      clear hok hat
      go_wp2_with fail
      refine (l04Root w0 g w2.heap.size ro HM.out.1 HM.out.2.1 4 ⟨r, 0, 0⟩ (1 + z) _ _ l' HOK.out (by simp) (by omega) (by omega) (by omega) HGD.out.cur HGD.out.blk (by have h := HGD.out.row; rw [List.append_nil] at h; exact h)).mono ?_
      rintro e w5 ⟨u, v2, l2, rfl, hG5, hm5⟩
      have HG5 := hid (hGr.out.trans (HGD.out.trans (show Grew w0 w4 w5 g w2.heap.size ro _ v2 (([] ++ l') ++ []) l2 by rw [List.append_nil]; exact hG5)))
      have HM5 := hid (show meshEnd (l' ++ l2) 0 = some (((r + 1 : Nat) : Int) * 16) by
        rw [meshEnd_app, hme.out]
        show meshEnd l2 _ = _
        rw [← HAT.out.1, ← HAT.out.2]
        exact hm5)
      clear hG5 hm5
      go_wp2
      go_roundw
      case rel => exact ⟨r + 1, _, _, by omega, by go_num, HG5, HM5⟩
      case measure => simp [intOf]; omega
    · have hrr : (r : Int) = ro := by omega
      have t1 : decide ((r : Int) < ro) = false := decide_eq_false hlt
      have HRR := hid hrr
      have hRf := hGr.out.at HR3.out HRG.out HM.out.2.2.1 (by intro e; cases e)
      have s0 := (blk_cell hRf 0).trans (show _ = some (Value.int .i64 0) from rfl)
      have s1 := (blk_cell hRf 1).trans (show _ = some (Value.slice none 0 0) from rfl)
      have f0 := blk_frozen hRf 0
      have f1 := blk_frozen hRf 1
      have HF := hid (show ((wr.setCell ⟨w.heap.size, 0, none⟩ (.int .i64 ro)).setCell ⟨w.heap.size, 1, none⟩ (.slice X l'.length y)).heap[w.heap.size]? = some (.cells #[.int .i64 ro, .slice X l'.length y] 26 (0, 0)) from blk_set (blk_set hRf 0 _) 1 _)
      have CF : Wi wr ((wr.setCell ⟨w.heap.size, 0, none⟩ (.int .i64 ro)).setCell ⟨w.heap.size, 1, none⟩ (.slice X l'.length y)) w.heap.size (w.heap.size + 1) := ((Wi.refl wr _ _).trans (Wi.put _ _ 0 _)).trans (Wi.put _ _ 1 _)
      have HCF := hid ((hGr.out.cur.set (M := w.heap.size) (by have := hC.below.size; omega) HRG.out 0 (.int .i64 ro)).set (M := w.heap.size) (by have := hC.below.size; omega) HRG.out 1 (.slice X l'.length y))
      have HOF := hid (show FO ((wr.setCell ⟨w.heap.size, 0, none⟩ (.int .i64 ro)).setCell ⟨w.heap.size, 1, none⟩ (.slice X l'.length y)) (g + 1) 58 3 (.slice X l'.length y) l'.length (idF l') from ⟨own_move hGr.out.row.out fun q hq => CF.block q (own_lt hGr.out.row.out q hq) (fun e => own_ne hGr.out.row.out hRf (by decide) (by rw [hq, show q = w.heap.size by omega]))⟩)
      have HGW := hid (show w.grownBy ((wr.setCell ⟨w.heap.size, 0, none⟩ (.int .i64 ro)).setCell ⟨w.heap.size, 1, none⟩ (.slice X l'.length y)) (some g) from grown_cur hC HCF.out (by have h1 := hGr.out.keep.size; have h2 := HBW.out.size; have h3 := HG2.out.size; have h4 := HBM.out.size; have h5 := CF.size; omega) (fun b hb hne => by
        have h1 := HBW.out.size
        have h2 := HG2.out.size
        have h3 := HBM.out.size
        refine (CF.block b (by have := hGr.out.keep.size; omega) (by omega)).trans ((hGr.out.keep.block b (by omega) hne (by have := HM.out.2.2.2; omega) (by intro e; cases e)).trans ((HBM.out.out.block b (by omega)).trans ((HG2.out.block b (by omega) (fun e => hne (Option.some.inj e))).trans (HBW.out.out.block b hb)))) ))
      clear CF hRf
      go_wp2
      refine bodyPost_ret (results_cell_row rfl _ _ w.heap.size 26 #[.int .i64 ro, .slice X l'.length y] (0, 0) _ rfl HF.out Try.underlying26 rfl (by kernel_rfl)) rfl ?_
      exact ⟨_, _, _, _, rfl, _, ⟨hro2, by rw [← HRR.out]; exact hme.out⟩, HOF.out, HCF.out, HGW.out⟩
end Go.Proofs.Ytaidbdogolhnjaa.U
set_option linter.unusedVariables false
set_option linter.unusedSimpArgs false
namespace Go.Proofs.Ytaidbdogolhnjaa.U
open Go.RowKit Go.Lib Go.Proofs.YtaidbdogolhnjaaW.PrintWords

open Go.Proofs.YtaidbdogolhnjaaW.PrintLast Go.Proofs.YtaidbdogolhnjaaW.PrintMore
theorem FO.idR {w : World} {base n c : Nat} {A : Option Addr} {l : List Ce} (h : FO w base 58 3 (.slice A n c) n (idF l)) : IdR w A n l := (FO.fr h).id
theorem FO.put {w w' : World} {base t k n g : Nat} {v : Value} {F : List Int} {cs : Array Value} {e : TypeId} (h : FO w base t k v n F) (hg : w.heap[g]? = some (.cells cs e (0, 0))) (hne : t ≠ e) (c : Wi w w' g (g + 1)) : FO w' base t k v n F :=
  ⟨own_move h.out fun q hq => c.block q (own_lt h.out q hq) (fun e2 => own_ne h.out hg hne (by rw [hq, show q = g by omega]))⟩
theorem IdR.toN (A : Option Addr) (n c : Nat) (l : List Ce) (hl : l.length = n) (hc : n ≤ c) (b : Nat) (h2 : b ≤ n) :
    (∀ W : World, (Instr.slice 24 (.slice A n c) none (some (.int .i64 (b : Int))) none).run Try.prog W = .ok (.slice A b c) W) ∧ (∀ w, IdR w A n l → IdR w A b (l.take b)) := by
  subst hl
  obtain ⟨i0, hi, hz0, hz1, hz2⟩ := info_parts info_id
  have h3 := cut_to (P := Try.prog) 24 58 .i64 Try.underlying24 hi A l.length c (b : Int) (by omega) (by omega) hc
  simp only [Int.toNat_natCast] at h3
  refine ⟨h3, fun w r => ?_⟩
  have h := Kd.C_mid (k := kCe) (w := w) (A := A) (xs := l) r.out (Nat.zero_le b) h2 hc
  rw [show ((l.take b).drop 0).length = b by rw [List.length_drop, List.length_take]; omega, List.drop_zero] at h
  have ha : (A.map fun x => x.add 0) = A := by cases A <;> simp [Addr.add]
  simp only [Nat.zero_mul, ha, ite_self] at h
  exact ⟨h⟩
theorem IdR.fromN (A : Option Addr) (n c : Nat) (l : List Ce) (hl : l.length = n) (hc : n ≤ c) (a : Nat) (h1 : a ≤ n) :
    ∃ A' c', (∀ W : World, (Instr.slice 24 (.slice A n c) (some (.int .i64 (a : Int))) none none).run Try.prog W = .ok (.slice A' (n - a) c') W) ∧ (∀ w, IdR w A n l → IdR w A' (n - a) (l.drop a)) := by
  subst hl
  obtain ⟨i0, hi, hz0, hz1, hz2⟩ := info_parts info_id
  have h3 := cut_from (P := Try.prog) 24 58 .i64 Try.underlying24 hi 3 hz1 A l.length c (a : Int) (by omega) (by omega)
  simp only [Int.toNat_natCast] at h3
  refine ⟨_, _, h3, fun w r => ?_⟩
  have h := Kd.C_mid (k := kCe) (w := w) (A := A) (xs := l) r.out h1 (Nat.le_refl _) hc
  rw [show ((l.take l.length).drop a).length = l.length - a by rw [List.length_drop, List.length_take]; omega, List.take_length] at h
  exact ⟨h⟩
set_option maxHeartbeats 4000000 in
set_option maxRecDepth 100000 in
theorem spec_l04Copy (ro : Int) (A : Option Addr) (n c : Nat) (l : List Ce) (w : World) (r : IdR w A n l) (hn : n ≤ 1000000) :
    Calls Try.prog 69 #[.agg #[.int .i64 ro, .slice A n c]] w fun e w' => ∃ X y, e = .returned (.agg #[.int .i64 ro, .slice X n y]) ∧ FO w' w.heap.size 58 3 (.slice X n y) n (idF l) ∧ Bw w w' := by
  have b0 := (Bw.box1 w (.cells #[.int .i64 ro, .slice A n c] 26)).alloc (.cells #[.int .i64 0, .slice none 0 0] 26)
  have g0 := box_cell ((Bw.refl (w.alloc (.cells #[.int .i64 ro, .slice A n c] 26))).alloc (.cells #[.int .i64 0, .slice none 0 0] 26)) 0
  have g1 := box_cell ((Bw.refl (w.alloc (.cells #[.int .i64 ro, .slice A n c] 26))).alloc (.cells #[.int .i64 0, .slice none 0 0] 26)) 1
  simp only [List.getElem?_toArray, List.getElem?_cons_zero, List.getElem?_cons_succ] at g0 g1
  have hR := heap_alloc_new (w.alloc (.cells #[.int .i64 ro, .slice A n c] 26)) (.cells #[.int .i64 0, .slice none 0 0] 26 (0, 0))
  rw [show (w.alloc (.cells #[.int .i64 ro, .slice A n c] 26)).heap.size = w.heap.size + 1 by simp] at hR
  go_enter Try.func69, Try.ntmps69
  go_upto_region 1 with fail
  generalize ((w.alloc (.cells #[.int .i64 ro, .slice A n c] 26)).alloc (.cells #[.int .i64 0, .slice none 0 0] 26)) = W1 at *
  refine start_ (n := 8) (S := fun w' => w'.cell? ⟨w.heap.size, 0, none⟩ = some (.int .i64 ro) ∧ w'.cell? ⟨w.heap.size, 1, none⟩ = some (.slice A n c)) (ds := [7]) #[false, false, false, false, false, false, false, false] (by kernel_rfl) rfl rfl ⟨g0, g1⟩ (fun hHeld => ?_)
  refine pure_ (i := 0) (N := (some 3)) (v := ?_) (a' := ?_) #[true, false, false, false, false, false, false, false] rfl rfl (by kernel_rfl) (fun _ _ _ h => h) (Or.inl ⟨by rfl, ?_⟩) ?_ ?_
  rotate_left
  · intro w'
    go_simp
    with_reducible rfl
  rotate_left
  · simp only [Act.put, List.setIfInBounds_toArray, List.set_cons_zero, List.set_cons_succ, i64_w, i32_w]
    rfl
  refine take_ (i := 1) (N := (some 4)) (v := ?_) (a' := ?_) #[true, true, false, false, false, false, false, false] rfl rfl (by kernel_rfl) (fun _ _ _ h => h) (Or.inl ⟨by rfl, ?_⟩) hHeld ?_ ?_
  rotate_left
  · rintro w' ⟨s0, s1⟩
    go_simp
    with_reducible rfl
  rotate_left
  · simp only [Act.put, List.setIfInBounds_toArray, List.set_cons_zero, List.set_cons_succ, i64_w, i32_w]
    rfl
  refine pure_ (i := 3) (N := (some 6)) (v := ?_) (a' := ?_) #[true, true, false, true, false, false, false, false] rfl rfl (by kernel_rfl) (fun _ _ _ h => h) (Or.inl ⟨by rfl, ?_⟩) ?_ ?_
  rotate_left
  · intro w'
    go_simp
    with_reducible rfl
  rotate_left
  · simp only [Act.put, List.setIfInBounds_toArray, List.set_cons_zero, List.set_cons_succ, i64_w, i32_w]
    rfl
  refine take_ (i := 4) (N := (some 7)) (v := ?_) (a' := ?_) #[true, true, false, true, true, false, false, false] rfl rfl (by kernel_rfl) (fun _ _ _ h => h) (Or.inl ⟨by rfl, ?_⟩) hHeld ?_ ?_
  rotate_left
  · rintro w' ⟨s0, s1⟩
    go_simp
    with_reducible rfl
  rotate_left
  · simp only [Act.put, List.setIfInBounds_toArray, List.set_cons_zero, List.set_cons_succ, i64_w, i32_w]
    rfl
  clear hHeld
  have bD := Bw.drawn (a := W1) ⟨⟨1, rfl⟩⟩
  have bA := Bw.box1 (W1.drewN 1) (.cells #[] 58)
  have oA := IdO.lit0 (W1.drewN 1)
  have bDA := bD.trans bA
  refine one_ (i := 2) (N := (some 5)) #[true, true, true, true, true, false, false, false] rfl rfl (by kernel_rfl) (by decide) (fun K hK => ?_)
  refine value_ (w1 := ?_) (v := ?_) (by rfl) rfl ?_ ?_
  rotate_left 2
  · go_simp
    constructor
    · rfl
    · rfl
  refine hK.out _ _ ⟨pw_cell_below bDA.out g0, pw_cell_below bDA.out g1⟩ (fun _ => ?_)
  rename_i hJ_
  clear hJ_
  clear hK K
  refine norm_ (a' := ?_) ?_ ?_
  rotate_left
  · show Act.put _ (some 5) _ = _
    simp only [Act.put, List.setIfInBounds_toArray, List.set_cons_zero, List.set_cons_succ, i64_w, i32_w]
    rfl
  refine one_ (i := 5) (N := (some 8)) #[true, true, true, true, true, true, false, false] rfl rfl (by kernel_rfl) (by decide) (fun K hK => ?_)
  refine appendIds_step (w0 := W1.drewN 1) (W1.drewN 1).heap.size (by rfl) (.tmp 5) (.tmp 7) rfl (.slice (some ⟨(W1.drewN 1).heap.size, 0, none⟩) 0 0) [] l A n c rfl rfl oA (r.to (b0.trans bDA)) bA.out bA.size (by simp; omega) ?_
  intro v1 wd ho hBd hgd had
  rw [List.nil_append, r.len] at ho
  obtain ⟨X, y, rfl, hy, _⟩ := FO.reads ho
  have bW : Bw W1 wd := bD.trans ⟨hBd⟩
  refine hK.out _ _ ⟨pw_cell_below bW.out g0, pw_cell_below bW.out g1⟩ (fun _ => ?_)
  rename_i hJ_
  clear hJ_
  clear hK K
  refine norm_ (a' := ?_) ?_ ?_
  rotate_left
  · show Act.put _ (some 8) _ = _
    simp only [Act.put, List.setIfInBounds_toArray, List.set_cons_zero, List.set_cons_succ, i64_w, i32_w]
    rfl
  refine pure_ (i := 6) (N := (some 9)) (v := ?_) (a' := ?_) #[true, true, true, true, true, true, true, false] rfl rfl (by kernel_rfl) (fun _ _ _ h => h) (Or.inl ⟨by rfl, ?_⟩) ?_ ?_
  rotate_left
  · intro w'
    go_simp
    with_reducible rfl
  rotate_left
  · simp only [Act.put, List.setIfInBounds_toArray, List.set_cons_zero, List.set_cons_succ, i64_w, i32_w]
    rfl
  have hRk := (bW.out.block _ (blk_lt hR)).trans hR
  have bb := b0.trans bW
  replace ho : FO wd w.heap.size 58 3 (.slice X n y) n (idF l) := FO.less ho (by have := bD.size; have := b0.size; omega)
  have s0 := (blk_cell hRk 0).trans (show _ = some (Value.int .i64 0) from rfl)
  have s1 := (blk_cell hRk 1).trans (show _ = some (Value.slice none 0 0) from rfl)
  have f0 := blk_frozen hRk 0
  have f1 := blk_frozen hRk 1
  have HF := hid (show ((wd.setCell ⟨w.heap.size + 1, 0, none⟩ (.int .i64 ro)).setCell ⟨w.heap.size + 1, 1, none⟩ (.slice X n y)).heap[w.heap.size + 1]? = some (.cells #[.int .i64 ro, .slice X n y] 26 (0, 0)) from blk_set (blk_set hRk 0 _) 1 _)
  have CF : Wi wd ((wd.setCell ⟨w.heap.size + 1, 0, none⟩ (.int .i64 ro)).setCell ⟨w.heap.size + 1, 1, none⟩ (.slice X n y)) (w.heap.size + 1) (w.heap.size + 1 + 1) := ((Wi.refl wd _ _).trans (Wi.put _ _ 0 _)).trans (Wi.put _ _ 1 _)
  have HOF := hid (FO.put ho hRk (by decide) CF)
  have HBF := hid (bb.then_wi CF (by omega))
  clear CF hRk ho bb
  refine last_ (i := 7) (N := none) #[true, true, true, true, true, true, true, true] rfl rfl (by kernel_rfl) (by decide) (fun K hK => ?_)
  refine skip_ (w1 := ?_) (by rfl) rfl ?_ ?_
  rotate_left
  · go_simp
    rfl
  refine hK.out _ _ ?_
  clear hK K
  refine done_ (by kernel_rfl) ?_
  go_wp2
  refine bodyPost_ret (results_cell_row rfl _ _ (w.heap.size + 1) 26 #[.int .i64 ro, .slice X n y] (0, 0) _ rfl HF.out Try.underlying26 rfl (by kernel_rfl)) rfl ?_
  exact ⟨_, _, rfl, HOF.out, HBF.out⟩
theorem lit2Ids (W : World) (a b : Ce) : IdR (W.alloc (.cells #[.int .i64 a.r, .int .i64 a.l, .int .i64 a.i, .int .i64 b.r, .int .i64 b.l, .int .i64 b.i] 58)) (some ⟨W.heap.size, 0, none⟩) 2 [a, b] := by
  have h := World.ownsRow_lit (base := W.heap.size) (e := 58) (size := 3) W #[.int .i64 a.r, .int .i64 a.l, .int .i64 a.i, .int .i64 b.r, .int .i64 b.l, .int .i64 b.i] 2 (Nat.le_refl _) (by simp [maxLen]) (by simp)
  have f : FO (W.alloc (.cells #[.int .i64 a.r, .int .i64 a.l, .int .i64 a.i, .int .i64 b.r, .int .i64 b.l, .int .i64 b.i] 58)) W.heap.size 58 3 (.slice (some ⟨W.heap.size, 0, none⟩) 2 2) 2 (idF [a, b]) := ⟨by simpa [idF, nums] using h⟩
  exact f.idR
/-- a mesh's leaf replaced by its children -/
def splitC (l : List Ce) (i : Nat) : List Ce := l.take i ++ [kid (gc l i) 0, kid (gc l i) 1] ++ l.drop (i + 1)
theorem spec_l05Coarser (ro : Int) (A : Option Addr) (n c : Nat) (l : List Ce) (i : Nat) (w : World) (r : IdR w A n l) (hi : i + 1 < n) :
    Calls Try.prog 71 #[.agg #[.int .i64 ro, .slice A n c], .int .i64 i] w fun e w' => e = .returned (.int .i64 ((if (gc l i).l > (gc l (i + 1)).l then i + 1 else i : Nat) : Int)) ∧ Bw w w' := by
  have hmx := r.max
  have b0 := Bw.box1 w (.cells #[.int .i64 ro, .slice A n c] 26)
  have g0 := box_cell (Bw.refl (w.alloc (.cells #[.int .i64 ro, .slice A n c] 26))) 0
  have g1 := box_cell (Bw.refl (w.alloc (.cells #[.int .i64 ro, .slice A n c] 26))) 1
  simp only [List.getElem?_toArray, List.getElem?_cons_zero, List.getElem?_cons_succ] at g0 g1
  obtain ⟨ad, rfl, x0, x1, x2⟩ := (r.to b0).at i (by omega)
  obtain ⟨_, e_, y0, y1, y2⟩ := (r.to b0).at (i + 1) hi
  obtain rfl := Option.some.inj e_
  have e1 : IntKind.i64.wrap ((i : Int) + 1) = (i : Int) + 1 := i64w (by omega) (by omega)
  have i4 : (0 : Int) ≤ (i : Int) := by omega
  have i5 : (i : Int) < (n : Int) := by omega
  have i6 : (0 : Int) ≤ (i : Int) + 1 := by omega
  have i7 : (i : Int) + 1 < (n : Int) := by omega
  by_cases hgt : (gc l i).l > (gc l (i + 1)).l
  · rw [if_pos hgt]
    have t1 : decide ((gc l i).l > (gc l (i + 1)).l) = true := decide_eq_true hgt
    clear hgt e_
    go_enter Try.func71, Try.ntmps71
    go_wp2
    go_quiet (fail)
    go_wp2
    go_ret
    exact ⟨rfl, b0.trans (Bw.drawn ⟨⟨_, rfl⟩⟩)⟩
  · rw [if_neg hgt]
    have t1 : decide ((gc l i).l > (gc l (i + 1)).l) = false := decide_eq_false hgt
    clear hgt e_
    go_enter Try.func71, Try.ntmps71
    go_wp2
    go_quiet (fail)
    go_wp2
    go_ret
    exact ⟨rfl, b0.trans (Bw.drawn ⟨⟨_, rfl⟩⟩)⟩
set_option maxHeartbeats 8000000 in
set_option maxRecDepth 100000 in
theorem spec_l05Split (ro : Int) (A : Option Addr) (n c : Nat) (l : List Ce) (i : Nat) (w : World) (r : IdR w A n l) (hc : n ≤ c) (hn : n ≤ 100000) (hi : i < n) (hx : ceOk (gc l i) = true) (hlv : (gc l i).l < 4) :
    Calls Try.prog 70 #[.agg #[.int .i64 ro, .slice A n c], .int .i64 i] w fun e w' => ∃ X y, e = .returned (.agg #[.int .i64 ro, .slice X (n + 1) y]) ∧ FO w' w.heap.size 58 3 (.slice X (n + 1) y) (n + 1) (idF (splitC l i)) ∧ Bw w w' := by
  have b0 := (Bw.box1 w (.cells #[.int .i64 ro, .slice A n c] 26)).alloc (.cells #[.int .i64 0, .slice none 0 0] 26)
  have g0 := box_cell ((Bw.refl (w.alloc (.cells #[.int .i64 ro, .slice A n c] 26))).alloc (.cells #[.int .i64 0, .slice none 0 0] 26)) 0
  have g1 := box_cell ((Bw.refl (w.alloc (.cells #[.int .i64 ro, .slice A n c] 26))).alloc (.cells #[.int .i64 0, .slice none 0 0] 26)) 1
  simp only [List.getElem?_toArray, List.getElem?_cons_zero, List.getElem?_cons_succ] at g0 g1
  have hR := heap_alloc_new (w.alloc (.cells #[.int .i64 ro, .slice A n c] 26)) (.cells #[.int .i64 0, .slice none 0 0] 26 (0, 0))
  rw [show (w.alloc (.cells #[.int .i64 ro, .slice A n c] 26)).heap.size = w.heap.size + 1 by simp] at hR
  obtain ⟨ad, rfl, x0, x1, x2⟩ := (r.to b0).at i hi
  have HM0 := hid (IdR.toN (some ad) n c l r.len hc i (by omega))
  have HM1 := hid (IdR.fromN (some ad) n c l r.len hc (i + 1) (by omega))
  have hcn := r.max
  have HX := hid hx
  have HLV := hid hlv
  obtain ⟨q0, q1, q2, hq⟩ : ∃ q0 q1 q2, gc l i = ⟨q0, q1, q2⟩ := ⟨_, _, _, rfl⟩
  rw [hq] at HX HLV x0 x1 x2
  simp only at x0 x1 x2
  have HQ := hid hq
  have i4 : (0 : Int) ≤ (i : Int) := by omega
  have i5 : (i : Int) < (n : Int) := by omega
  have e1 : IntKind.i64.wrap ((i : Int) + 1) = (i : Int) + 1 := i64w (by omega) (by omega)
  clear hx hlv hq
  go_enter Try.func70, Try.ntmps70
  go_wp2_with fail
  generalize ((w.alloc (.cells #[.int .i64 ro, .slice (some ad) n c] 26)).alloc (.cells #[.int .i64 0, .slice none 0 0] 26)) = W1 at *
  refine (spec_ChildOf ⟨q0, q1, q2⟩ 0 _ HX.out HLV.out (by omega)).mono ?_
  rintro e_ W2 ⟨rfl, b1⟩
  obtain ⟨a0, a1, a2, ha⟩ : ∃ a0 a1 a2, kid ⟨q0, q1, q2⟩ ((0 : Nat) : Int) = ⟨a0, a1, a2⟩ := ⟨_, _, _, rfl⟩
  rw [ha]
  have HA := hid ha
  clear ha
  replace b0 := (b0.trans b1).trans (Bw.box1 W2 (.cells #[.int .i64 a0, .int .i64 a1, .int .i64 a2] 58))
  replace b1 := b1.trans (Bw.box1 W2 (.cells #[.int .i64 a0, .int .i64 a1, .int .i64 a2] 58))
  replace g0 := pw_cell_below b1.out g0
  replace g1 := pw_cell_below b1.out g1
  replace x0 := pw_cell_below b1.out x0
  replace x1 := pw_cell_below b1.out x1
  replace x2 := pw_cell_below b1.out x2
  replace hR := (b1.out.block _ (blk_lt hR)).trans hR
  have y0 := box_cell (Bw.refl (W2.alloc (.cells #[.int .i64 a0, .int .i64 a1, .int .i64 a2] 58))) 0
  have y1 := box_cell (Bw.refl (W2.alloc (.cells #[.int .i64 a0, .int .i64 a1, .int .i64 a2] 58))) 1
  have y2 := box_cell (Bw.refl (W2.alloc (.cells #[.int .i64 a0, .int .i64 a1, .int .i64 a2] 58))) 2
  simp only [List.getElem?_toArray, List.getElem?_cons_zero, List.getElem?_cons_succ] at y0 y1 y2
  clear b1
  go_wp2_with fail
  generalize (W2.alloc (.cells #[.int .i64 a0, .int .i64 a1, .int .i64 a2] 58)) = W3 at *
  refine (spec_ChildOf ⟨q0, q1, q2⟩ 1 _ HX.out HLV.out (by omega)).mono ?_
  rintro e_ W4 ⟨rfl, b1⟩
  obtain ⟨c0, c1, c2, hcc⟩ : ∃ c0 c1 c2, kid ⟨q0, q1, q2⟩ ((1 : Nat) : Int) = ⟨c0, c1, c2⟩ := ⟨_, _, _, rfl⟩
  rw [hcc]
  have HCC := hid hcc
  clear hcc
  replace b0 := (b0.trans b1).trans (Bw.box1 W4 (.cells #[.int .i64 c0, .int .i64 c1, .int .i64 c2] 58))
  replace b1 := b1.trans (Bw.box1 W4 (.cells #[.int .i64 c0, .int .i64 c1, .int .i64 c2] 58))
  replace g0 := pw_cell_below b1.out g0
  replace g1 := pw_cell_below b1.out g1
  replace x0 := pw_cell_below b1.out x0
  replace x1 := pw_cell_below b1.out x1
  replace x2 := pw_cell_below b1.out x2
  replace y0 := pw_cell_below b1.out y0
  replace y1 := pw_cell_below b1.out y1
  replace y2 := pw_cell_below b1.out y2
  replace hR := (b1.out.block _ (blk_lt hR)).trans hR
  have u0 := box_cell (Bw.refl (W4.alloc (.cells #[.int .i64 c0, .int .i64 c1, .int .i64 c2] 58))) 0
  have u1 := box_cell (Bw.refl (W4.alloc (.cells #[.int .i64 c0, .int .i64 c1, .int .i64 c2] 58))) 1
  have u2 := box_cell (Bw.refl (W4.alloc (.cells #[.int .i64 c0, .int .i64 c1, .int .i64 c2] 58))) 2
  simp only [List.getElem?_toArray, List.getElem?_cons_zero, List.getElem?_cons_succ] at u0 u1 u2
  clear b1
  obtain ⟨hm0, rT⟩ := HM0.out
  obtain ⟨A2, c2_, hm1, rD⟩ := HM1.out
  rw [show ((i + 1 : Nat) : Int) = (i : Int) + 1 by omega] at hm1
  have hti : (l.take i).length = i := by rw [List.length_take, r.len]; omega
  have HTI := hid hti
  clear hti
  go_upto_region 3 with fail
  generalize (W4.alloc (.cells #[.int .i64 c0, .int .i64 c1, .int .i64 c2] 58)) = W5 at *
  have K_g0 := hid g0
  have K_g1 := hid g1
  have K_y0 := hid y0
  have K_y1 := hid y1
  have K_y2 := hid y2
  have K_u0 := hid u0
  have K_u1 := hid u1
  have K_u2 := hid u2
  have K_R := hid hR
  clear hR x0 x1 x2
  have oA := IdO.lit0 W5
  have bA := Bw.box1 W5 (.cells #[] 58)
  have rT5 := rT _ (r.to (b0.trans bA))
  replace g0 := pw_cell_below bA.out K_g0.out
  replace g1 := pw_cell_below bA.out K_g1.out
  replace y0 := pw_cell_below bA.out K_y0.out
  replace y1 := pw_cell_below bA.out K_y1.out
  replace y2 := pw_cell_below bA.out K_y2.out
  replace u0 := pw_cell_below bA.out K_u0.out
  replace u1 := pw_cell_below bA.out K_u1.out
  replace u2 := pw_cell_below bA.out K_u2.out
  go_upto_region 4 with (at_builtin; refine appendIds (w0 := W5) W5.heap.size rfl _ _ rfl (.slice (some ⟨W5.heap.size, 0, none⟩) 0 0) [] (l.take i) (some ad) i c rfl rfl oA rT5 bA.out bA.size (by simp; omega) ?_; intro v1 W6 ho hBd hgd had; rw [List.nil_append, HTI.out] at ho; obtain ⟨X, y, rfl, hy, _⟩ := FO.reads ho; have bW : Bw W5 W6 := ⟨hBd⟩; clear hgd had hBd oA bA rT5; replace g0 := pw_cell_below bW.out K_g0.out; replace g1 := pw_cell_below bW.out K_g1.out; replace y0 := pw_cell_below bW.out K_y0.out; replace y1 := pw_cell_below bW.out K_y1.out; replace y2 := pw_cell_below bW.out K_y2.out; replace u0 := pw_cell_below bW.out K_u0.out; replace u1 := pw_cell_below bW.out K_u1.out; replace u2 := pw_cell_below bW.out K_u2.out)
  have bL := Bw.box1 W6 (.cells #[.int .i64 a0, .int .i64 a1, .int .i64 a2, .int .i64 c0, .int .i64 c1, .int .i64 c2] 58)
  have rL := lit2Ids W6 ⟨a0, a1, a2⟩ ⟨c0, c1, c2⟩
  have bWL := bW.trans bL
  go_upto_region 5 with (at_builtin; refine appendIds (w0 := W5) W5.heap.size rfl _ _ rfl (.slice X i y) (l.take i) [⟨a0, a1, a2⟩, ⟨c0, c1, c2⟩] (some ⟨W6.heap.size, 0, none⟩) 2 2 rfl rfl (by rw [HTI.out]; exact ho.to bL) rL bWL.out bWL.size (by rw [HTI.out]; omega) ?_; intro v1 W7 ho7 hBd hgd had; rw [List.length_append, HTI.out] at ho7; obtain ⟨X7, y7, rfl, hy7, _⟩ := FO.reads ho7; have bW7 : Bw W5 W7 := ⟨hBd⟩; clear hgd had hBd ho bL rL bWL; replace g0 := pw_cell_below bW7.out K_g0.out; replace g1 := pw_cell_below bW7.out K_g1.out; replace y0 := pw_cell_below bW7.out K_y0.out; replace y1 := pw_cell_below bW7.out K_y1.out; replace y2 := pw_cell_below bW7.out K_y2.out; replace u0 := pw_cell_below bW7.out K_u0.out; replace u1 := pw_cell_below bW7.out K_u1.out; replace u2 := pw_cell_below bW7.out K_u2.out; clear y0 y1 y2 u0 u1 u2 bW)
  refine start_ (n := 11) (S := fun w' => w'.cell? ⟨w.heap.size, 0, none⟩ = some (.int .i64 ro) ∧ w'.cell? ⟨w.heap.size, 1, none⟩ = some (.slice (some ad) n c)) (ds := [10]) #[false, false, false, false, false, false, false, false, false, false, false] (by kernel_rfl) rfl rfl ⟨g0, g1⟩ (fun hHeld => ?_)
  refine pure_ (i := 0) (N := (some 39)) (v := ?_) (a' := ?_) #[true, false, false, false, false, false, false, false, false, false, false] rfl rfl (by kernel_rfl) (fun _ _ _ h => h) (Or.inl ⟨by rfl, ?_⟩) ?_ ?_
  rotate_left
  · intro w'
    go_simp
    with_reducible rfl
  rotate_left
  · simp only [Act.put, List.setIfInBounds_toArray, List.set_cons_zero, List.set_cons_succ, i64_w, i32_w]
    rfl
  refine take_ (i := 1) (N := (some 40)) (v := ?_) (a' := ?_) #[true, true, false, false, false, false, false, false, false, false, false] rfl rfl (by kernel_rfl) (fun _ _ _ h => h) (Or.inl ⟨by rfl, ?_⟩) hHeld ?_ ?_
  rotate_left
  · rintro w' ⟨s0, s1⟩
    go_simp
    with_reducible rfl
  rotate_left
  · simp only [Act.put, List.setIfInBounds_toArray, List.set_cons_zero, List.set_cons_succ, i64_w, i32_w]
    rfl
  refine pure_ (i := 2) (N := (some 41)) (v := ?_) (a' := ?_) #[true, true, true, false, false, false, false, false, false, false, false] rfl rfl (by kernel_rfl) (fun _ _ _ h => h) (Or.inl ⟨by rfl, ?_⟩) ?_ ?_
  rotate_left
  · intro w'
    go_simp
    with_reducible rfl
  rotate_left
  · simp only [Act.put, List.setIfInBounds_toArray, List.set_cons_zero, List.set_cons_succ, i64_w, i32_w]
    rfl
  refine pure_ (i := 3) (N := (some 42)) (v := ?_) (a' := ?_) #[true, true, true, true, false, false, false, false, false, false, false] rfl rfl (by kernel_rfl) (fun _ _ _ h => h) (Or.inl ⟨by rfl, ?_⟩) ?_ ?_
  rotate_left
  · intro w'
    go_simp
    with_reducible rfl
  rotate_left
  · simp only [Act.put, List.setIfInBounds_toArray, List.set_cons_zero, List.set_cons_succ, i64_w, i32_w]
    rfl
  refine take_ (i := 4) (N := (some 43)) (v := ?_) (a' := ?_) #[true, true, true, true, true, false, false, false, false, false, false] rfl rfl (by kernel_rfl) (fun _ _ _ h => h) (Or.inl ⟨by rfl, ?_⟩) hHeld ?_ ?_
  rotate_left
  · rintro w' ⟨s0, s1⟩
    go_simp
    with_reducible rfl
  rotate_left
  · simp only [Act.put, List.setIfInBounds_toArray, List.set_cons_zero, List.set_cons_succ, i64_w, i32_w]
    rfl
  refine pure_ (i := 5) (N := (some 44)) (v := ?_) (a' := ?_) #[true, true, true, true, true, true, false, false, false, false, false] rfl rfl (by kernel_rfl) (fun _ _ _ h => h) (Or.inl ⟨by rfl, ?_⟩) ?_ ?_
  rotate_left
  · intro w'
    go_simp
    with_reducible rfl
  rotate_left
  · simp only [Act.put, List.setIfInBounds_toArray, List.set_cons_zero, List.set_cons_succ, i64_w, i32_w]
    rfl
  refine pure_ (i := 6) (N := (some 45)) (v := ?_) (a' := ?_) #[true, true, true, true, true, true, true, false, false, false, false] rfl rfl (by kernel_rfl) (fun _ _ _ h => h) (Or.inl ⟨by rfl, ?_⟩) ?_ ?_
  rotate_left
  · intro w'
    go_simp
    with_reducible rfl
  rotate_left
  · simp only [Act.put, List.setIfInBounds_toArray, List.set_cons_zero, List.set_cons_succ, i64_w, i32_w]
    rfl
  refine pure_ (i := 7) (N := (some 46)) (v := ?_) (a' := ?_) #[true, true, true, true, true, true, true, true, false, false, false] rfl rfl (by kernel_rfl) (fun _ _ _ h => h) (Or.inl ⟨by rfl, ?_⟩) ?_ ?_
  rotate_left
  · intro w'
    go_simp
    with_reducible rfl
  rotate_left
  · simp only [Act.put, List.setIfInBounds_toArray, List.set_cons_zero, List.set_cons_succ, i64_w, i32_w]
    rfl
  clear hHeld
  have bD := Bw.drawn (a := W7) ⟨⟨1, rfl⟩⟩
  have b7D := bW7.trans bD
  refine one_ (i := 8) (N := (some 47)) #[true, true, true, true, true, true, true, true, true, false, false] rfl rfl (by kernel_rfl) (by decide) (fun K hK => ?_)
  refine appendIds_step (w0 := W5) W5.heap.size (by rfl) (.tmp 41) (.tmp 46) rfl (.slice X7 (i + 2) y7) (l.take i ++ [⟨a0, a1, a2⟩, ⟨c0, c1, c2⟩]) (l.drop (i + 1)) A2 (n - (i + 1)) c2_ rfl rfl (by rw [List.length_append, HTI.out]; exact ho7.to bD) (rD _ (r.to (b0.trans b7D))) b7D.out b7D.size (by rw [List.length_append, HTI.out]; simp; omega) ?_
  intro v1 wd ho hBd hgd had
  have hln : (l.take i ++ [(⟨a0, a1, a2⟩ : Ce), ⟨c0, c1, c2⟩] ++ l.drop (i + 1)).length = n + 1 := by rw [List.length_append, List.length_append, HTI.out, List.length_drop, r.len]; simp; omega
  rw [hln] at ho
  obtain ⟨X8, y8, rfl, hy8, _⟩ := FO.reads ho
  have bWd : Bw W5 wd := ⟨hBd⟩
  have HLN := hid hln
  clear hln hgd had hBd
  replace g0 := pw_cell_below bWd.out K_g0.out
  replace g1 := pw_cell_below bWd.out K_g1.out
  refine hK.out _ _ ⟨g0, g1⟩ (fun _ => ?_)
  rename_i hJ_
  clear hJ_
  clear hK K
  refine norm_ (a' := ?_) ?_ ?_
  rotate_left
  · show Act.put _ (some 47) _ = _
    simp only [Act.put, List.setIfInBounds_toArray, List.set_cons_zero, List.set_cons_succ, i64_w, i32_w]
    rfl
  refine pure_ (i := 9) (N := (some 48)) (v := ?_) (a' := ?_) #[true, true, true, true, true, true, true, true, true, true, false] rfl rfl (by kernel_rfl) (fun _ _ _ h => h) (Or.inl ⟨by rfl, ?_⟩) ?_ ?_
  rotate_left
  · intro w'
    go_simp
    with_reducible rfl
  rotate_left
  · simp only [Act.put, List.setIfInBounds_toArray, List.set_cons_zero, List.set_cons_succ, i64_w, i32_w]
    rfl
  have hRk := (bWd.out.block _ (blk_lt K_R.out)).trans K_R.out
  have bb := b0.trans bWd
  replace ho : FO wd w.heap.size 58 3 (.slice X8 (n + 1) y8) (n + 1) (idF (splitC l i)) := FO.less (by rw [splitC, HQ.out]; rw [show kid ⟨q0, q1, q2⟩ 0 = ⟨a0, a1, a2⟩ from HA.out, show kid ⟨q0, q1, q2⟩ 1 = ⟨c0, c1, c2⟩ from HCC.out]; exact ho) (by have := b0.size; omega)
  clear bW7 b7D bWd
  have s0 := (blk_cell hRk 0).trans (show _ = some (Value.int .i64 0) from rfl)
  have s1 := (blk_cell hRk 1).trans (show _ = some (Value.slice none 0 0) from rfl)
  have f0 := blk_frozen hRk 0
  have f1 := blk_frozen hRk 1
  have HF := hid (show ((wd.setCell ⟨w.heap.size + 1, 0, none⟩ (.int .i64 ro)).setCell ⟨w.heap.size + 1, 1, none⟩ (.slice X8 (n + 1) y8)).heap[w.heap.size + 1]? = some (.cells #[.int .i64 ro, .slice X8 (n + 1) y8] 26 (0, 0)) from blk_set (blk_set hRk 0 _) 1 _)
  have CF : Wi wd ((wd.setCell ⟨w.heap.size + 1, 0, none⟩ (.int .i64 ro)).setCell ⟨w.heap.size + 1, 1, none⟩ (.slice X8 (n + 1) y8)) (w.heap.size + 1) (w.heap.size + 1 + 1) := ((Wi.refl wd _ _).trans (Wi.put _ _ 0 _)).trans (Wi.put _ _ 1 _)
  have HOF := hid (FO.put ho hRk (by decide) CF)
  have HBF := hid (bb.then_wi CF (by omega))
  clear CF hRk ho bb
  refine last_ (i := 10) (N := none) #[true, true, true, true, true, true, true, true, true, true, true] rfl rfl (by kernel_rfl) (by decide) (fun K hK => ?_)
  refine skip_ (w1 := ?_) (by rfl) rfl ?_ ?_
  rotate_left
  · go_simp
    rfl
  refine hK.out _ _ ?_
  clear hK K
  refine done_ (by kernel_rfl) ?_
  go_wp2
  refine bodyPost_ret (results_cell_row rfl _ _ (w.heap.size + 1) 26 #[.int .i64 ro, .slice X8 (n + 1) y8] (0, 0) _ rfl HF.out Try.underlying26 rfl (by kernel_rfl)) rfl ?_
  exact ⟨_, _, rfl, HOF.out, HBF.out⟩
theorem FO.room {w : World} {base n y : Nat} {X : Option Addr} {F : List Int} (h : FO w base 58 3 (.slice X n y) n F) : n ≤ y := by
  obtain ⟨A, c, e, hc, _⟩ := h.reads
  simp only [Value.slice.injEq] at e
  obtain ⟨_, _, rfl⟩ := e
  exact hc
theorem firstUn_some (l : List Ce) : ∀ (d j : Nat), 0 ≤ firstUn l d j → ∃ i : Nat, firstUn l d j = (i : Int) ∧ i + 1 < l.length ∧ ((gc l i).l - (gc l (i + 1)).l > 1 ∨ (gc l i).l - (gc l (i + 1)).l < -1)
  | 0, j, h => by simp [firstUn] at h
  | d + 1, j, h => by
    rw [firstUn] at h ⊢
    split at h
    · rename_i h1
      rw [if_pos h1]
      split at h
      · rename_i h2
        rw [if_pos h2]
        exact ⟨j, rfl, h1, h2⟩
      · rename_i h2
        rw [if_neg h2]
        exact firstUn_some l d (j + 1) h
    · omega
theorem split_ok {ro : Int} {l : List Ce} {i : Nat} (h : meshOk ro l = true) (hi : i < l.length) (hl : (gc l i).l < 4) : meshOk ro (splitC l i) = true := by
  have hok := meshOk_all h _ (gc_mem hi)
  have e : meshEnd (splitC l i) 0 = meshEnd l 0 := by
    have h1 : l = l.take i ++ [gc l i] ++ l.drop (i + 1) := by
      rw [gc_at hi, List.append_assoc, List.singleton_append, ← List.drop_eq_getElem_cons hi, List.take_append_drop]
    have h2 : ∀ a, meshEnd [kid (gc l i) 0, kid (gc l i) 1] a = meshEnd [gc l i] a := fun a => by
      obtain ⟨k1, k2, k3⟩ := kid_at hok hl
      rw [meshEnd, meshEnd, meshEnd, meshEnd, meshEnd]
      simp only [hok, kid_ok hok hl 0 (by omega), kid_ok hok hl 1 (by omega), true_and, k1, k2, k3, if_true]
    conv => rhs; rw [h1]
    rw [splitC, meshEnd_app, meshEnd_app, meshEnd_app, meshEnd_app]
    congr 1
    congr 1
    exact funext h2
  rw [meshOk, e]
  exact h
def sliceLen : Option Value → Nat
  | some (.slice _ n _) => n
  | _ => 0
set_option maxHeartbeats 8000000 in
set_option maxRecDepth 100000 in
theorem spec_Balance (ro : Int) (A : Option Addr) (n c : Nat) (l : List Ce) (w : World) (r : IdR w A n l) (hc : n ≤ c) (hm : meshOk ro l = true) :
    Calls Try.prog 40 #[.agg #[.int .i64 ro, .slice A n c]] w fun e w' => ∃ X n' y l', e = .returned (.agg #[.int .i64 ro, .slice X n' y]) ∧ FO w' w.heap.size 58 3 (.slice X n' y) n' (idF l') ∧ n' ≤ y ∧ isBal ro l' = true ∧ Bw w w' := by
  have b0 := (Bw.box1 w (.cells #[.int .i64 ro, .slice A n c] 26)).alloc (.cells #[.int .i64 0, .slice none 0 0] 26)
  have g0 := box_cell ((Bw.refl (w.alloc (.cells #[.int .i64 ro, .slice A n c] 26))).alloc (.cells #[.int .i64 0, .slice none 0 0] 26)) 0
  have g1 := box_cell ((Bw.refl (w.alloc (.cells #[.int .i64 ro, .slice A n c] 26))).alloc (.cells #[.int .i64 0, .slice none 0 0] 26)) 1
  simp only [List.getElem?_toArray, List.getElem?_cons_zero, List.getElem?_cons_succ] at g0 g1
  have hR := heap_alloc_new (w.alloc (.cells #[.int .i64 ro, .slice A n c] 26)) (.cells #[.int .i64 0, .slice none 0 0] 26 (0, 0))
  rw [show (w.alloc (.cells #[.int .i64 ro, .slice A n c] 26)).heap.size = w.heap.size + 1 by simp] at hR
  have HMO := hid hm
  have HC := hid hc
  have hn128 := (meshOk_len hm).1
  have hln := r.len
  have HL0 := hid hln
  have hn1 : n ≤ 128 := by omega
  clear hm hn128 hln
  go_enter Try.func40, Try.ntmps40
  go_wp2_with fail
  generalize ((w.alloc (.cells #[.int .i64 ro, .slice A n c] 26)).alloc (.cells #[.int .i64 0, .slice none 0 0] 26)) = W1 at *
  refine (spec_l04Copy ro A n c l _ (r.to b0) (by omega)).mono ?_
  rintro e_ W2 ⟨X, y, rfl, ho, b1⟩
  have hy := FO.room ho
  have hRM : w.heap.size + 1 < W2.heap.size := by have h1 := blk_lt hR; have h2 := b1.size; omega
  have bX := Bw.box1 W2 (.cells #[.int .i64 ro, .slice X n y] 26)
  have hkM := heap_alloc_new W2 (.cells #[.int .i64 ro, .slice X n y] 26 (0, 0))
  replace g0 := pw_cell_below (b1.trans bX).out g0
  replace g1 := pw_cell_below (b1.trans bX).out g1
  replace hR := ((b1.trans bX).out.block _ (blk_lt hR)).trans hR
  have hoX := ho.to bX
  replace hoX := hoX.less (show w.heap.size ≤ _ by have := b0.size; omega)
  have HB := hid ((b0.trans b1).trans bX)
  have HMW := hid (show w.heap.size ≤ W2.heap.size from ((b0.trans b1)).size)
  clear b1 bX ho
  go_wp2_with fail
  generalize (W2.alloc (.cells #[.int .i64 ro, .slice X n y] 26)) = W3 at *
  refine (spec_MeshOk ro A n c l _ (r.to HB.out)).mono ?_
  rintro e_ W4 ⟨rfl, b1⟩
  rw [HMO.out]
  replace hR := (b1.out.block _ (blk_lt hR)).trans hR
  replace hkM := (b1.out.block _ (blk_lt hkM)).trans hkM
  replace hoX := hoX.to b1
  have m0 : W4.cell? ⟨W2.heap.size, 0, none⟩ = some (.int .i64 ro) := (blk_cell hkM 0).trans rfl
  have m1 : W4.cell? ⟨W2.heap.size, 1, none⟩ = some (.slice X n y) := (blk_cell hkM 1).trans rfl
  replace HB := hid (HB.out.trans b1)
  clear b1 g0 g1
  go_wp2_with fail
  refine (spec_l05First ro X n y l _ hoX.idR (meshOk_lvs HMO.out)).mono ?_
  rintro e_ W5 ⟨rfl, b1⟩
  have HR := hid ((b1.out.block _ (blk_lt hR)).trans hR)
  have HKM := hid ((b1.out.block _ (blk_lt hkM)).trans hkM)
  have HOX := hid (hoX.to b1)
  replace HB := hid (HB.out.trans b1)
  clear b1 m0 m1 hR hkM hoX
  go_wp2
  go_loopw [4] (fun v4 wr => ∃ (l' : List Ce) (X' : Option Addr) (n' y' : Nat), v4 = .int .i64 (unbal l') ∧ Hid (meshOk ro l' = true) ∧ n' ≤ y' ∧ Hid (FO wr w.heap.size 58 3 (.slice X' n' y') n' (idF l')) ∧ Hid (wr.heap[W2.heap.size]? = some (.cells #[.int .i64 ro, .slice X' n' y'] 26 (0, 0))) ∧ Hid (wr.heap[w.heap.size + 1]? = some (.cells #[.int .i64 0, .slice none 0 0] 26 (0, 0))) ∧ Hid (Bw w wr)) (fun _ wr => 200 - sliceLen (wr.cell? ⟨W2.heap.size, 1, none⟩))
  case atStart => exact ⟨l, X, n, y, rfl, HMO, hy, HOX, HKM, HR, HB⟩
  case round =>
    obtain ⟨l', X', n', y', rfl, hM', hy', hO', hK', hR', hB'⟩ := hrel
    have m0 : wr.cell? ⟨W2.heap.size, 0, none⟩ = some (.int .i64 ro) := (blk_cell hK'.out 0).trans rfl
    have m1 : wr.cell? ⟨W2.heap.size, 1, none⟩ = some (.slice X' n' y') := (blk_cell hK'.out 1).trans rfl
    have hl' := hO'.out.idR.len
    have hnn : n' ≤ 128 := by have := (meshOk_len hM'.out).1; omega
    by_cases hge : 0 ≤ unbal l'
    · obtain ⟨i, hi, hil, hun⟩ := firstUn_some l' l'.length 0 hge
      have hui : unbal l' = (i : Int) := hi
      have t1 : decide (unbal l' ≥ 0) = true := decide_eq_true hge
      have hlvs := (meshOk_lvs hM'.out).out
      have hl0 := hlvs i (by omega)
      have hl1 := hlvs (i + 1) (by omega)
      obtain ⟨j, hj⟩ : ∃ j : Nat, (if (gc l' i).l > (gc l' (i + 1)).l then i + 1 else i : Nat) = j := ⟨_, rfl⟩
      have hjl : j < n' ∧ (gc l' j).l < 4 := by
        split at hj <;> subst hj <;> (constructor <;> omega)
      have hok := meshOk_all hM'.out _ (gc_mem (show j < l'.length by omega))
      have HSP := hid (split_ok hM'.out (by omega) hjl.2)
      have HJ := hid hj
      have HOK := hid hok
      rw [hui] at t1 ⊢
      have HUI := hid hui
      clear hge hi hun hui hl0 hl1 hlvs hj hok
      go_wp2
      refine start_ (n := 6) (S := fun w' => w'.cell? ⟨W2.heap.size, 0, none⟩ = some (.int .i64 ro) ∧ w'.cell? ⟨W2.heap.size, 1, none⟩ = some (.slice X' n' y')) (ds := [5]) #[false, false, false, false, false, false] (by kernel_rfl) rfl rfl ⟨m0, m1⟩ (fun hHeld => ?_)
      refine take_ (i := 0) (N := (some 17)) (v := ?_) (a' := ?_) #[true, false, false, false, false, false] rfl rfl (by kernel_rfl) (fun _ _ _ h => h) (Or.inl ⟨by rfl, ?_⟩) hHeld ?_ ?_
      rotate_left
      · rintro w' ⟨s0, s1⟩
        go_simp
        with_reducible rfl
      rotate_left
      · simp only [Act.put, List.setIfInBounds_toArray, List.set_cons_zero, List.set_cons_succ, i64_w, i32_w]
        rfl
      refine take_ (i := 1) (N := (some 18)) (v := ?_) (a' := ?_) #[true, true, false, false, false, false] rfl rfl (by kernel_rfl) (fun _ _ _ h => h) (Or.inl ⟨by rfl, ?_⟩) hHeld ?_ ?_
      rotate_left
      · rintro w' ⟨s0, s1⟩
        go_simp
        with_reducible rfl
      rotate_left
      · simp only [Act.put, List.setIfInBounds_toArray, List.set_cons_zero, List.set_cons_succ, i64_w, i32_w]
        rfl
      refine pure_ (i := 2) (N := (some 19)) (v := ?_) (a' := ?_) #[true, true, true, false, false, false] rfl rfl (by kernel_rfl) (fun _ _ _ h => h) (Or.inl ⟨by rfl, ?_⟩) ?_ ?_
      rotate_left
      · intro w'
        go_simp
        with_reducible rfl
      rotate_left
      · simp only [Act.put, List.setIfInBounds_toArray, List.set_cons_zero, List.set_cons_succ, i64_w, i32_w]
        rfl
      clear hHeld
      have bD := Bw.drawn (a := wr) ⟨⟨1, rfl⟩⟩
      refine one_ (i := 3) (N := (some 20)) #[true, true, true, true, false, false] rfl rfl (by kernel_rfl) (by decide) (fun K hK => ?_)
      refine goes_ Try.func71 (by kernel_rfl) rfl #[.agg #[.int .i64 ro, .slice X' n' y'], .int .i64 (i : Int)] (by rfl) rfl rfl (by (try simp only [List.map_toArray, List.map_cons, List.map_nil]); first | done | rfl) ?_
      refine (spec_l05Coarser ro X' n' y' l' i _ (hO'.out.idR.to bD) (by omega)).mono ?_
      rintro e wa ⟨rfl, ba⟩
      refine ⟨_, rfl, ?_⟩
      rw [HJ.out]
      have bA := bD.trans ba
      refine hK.out _ _ ⟨pw_cell_below bA.out m0, pw_cell_below bA.out m1⟩ (fun _ => ?_)
      rename_i hJ_
      clear hJ_
      clear hK K
      refine norm_ (a' := ?_) ?_ ?_
      rotate_left
      · show Act.put _ (some 20) _ = _
        simp only [Act.put, List.setIfInBounds_toArray, List.set_cons_zero, List.set_cons_succ, i64_w, i32_w]
        rfl
      refine one_ (i := 4) (N := (some 21)) #[true, true, true, true, true, false] rfl rfl (by kernel_rfl) (by decide) (fun K hK => ?_)
      refine goes_ Try.func70 (by kernel_rfl) rfl #[.agg #[.int .i64 ro, .slice X' n' y'], .int .i64 (j : Int)] (by rfl) rfl rfl (by (try simp only [List.map_toArray, List.map_cons, List.map_nil]); first | done | rfl) ?_
      refine (spec_l05Split ro X' n' y' l' j _ (hO'.out.idR.to bA) hy' (by omega) hjl.1 HOK.out hjl.2).mono ?_
      rintro e wb ⟨X2, y2, rfl, o2, bb⟩
      refine ⟨_, rfl, ?_⟩
      have bB := bA.trans bb
      refine hK.out _ _ ⟨pw_cell_below bB.out m0, pw_cell_below bB.out m1⟩ (fun _ => ?_)
      rename_i hJ_
      clear hJ_
      clear hK K
      refine norm_ (a' := ?_) ?_ ?_
      rotate_left
      · show Act.put _ (some 21) _ = _
        simp only [Act.put, List.setIfInBounds_toArray, List.set_cons_zero, List.set_cons_succ, i64_w, i32_w]
        rfl
      have hk2 := (bB.out.block _ (blk_lt hK'.out)).trans hK'.out
      have hR2 := (bB.out.block _ (blk_lt hR'.out)).trans hR'.out
      have hy2 := FO.room o2
      have s0 := (blk_cell hk2 0).trans (show _ = some (Value.int .i64 ro) from rfl)
      have s1 := (blk_cell hk2 1).trans (show _ = some (Value.slice X' n' y') from rfl)
      have f0 := blk_frozen hk2 0
      have f1 := blk_frozen hk2 1
      have HF := hid (show ((wb.setCell ⟨W2.heap.size, 0, none⟩ (.int .i64 ro)).setCell ⟨W2.heap.size, 1, none⟩ (.slice X2 (n' + 1) y2)).heap[W2.heap.size]? = some (.cells #[.int .i64 ro, .slice X2 (n' + 1) y2] 26 (0, 0)) from blk_set (blk_set hk2 0 _) 1 _)
      have CF : Wi wb ((wb.setCell ⟨W2.heap.size, 0, none⟩ (.int .i64 ro)).setCell ⟨W2.heap.size, 1, none⟩ (.slice X2 (n' + 1) y2)) W2.heap.size (W2.heap.size + 1) := ((Wi.refl wb _ _).trans (Wi.put _ _ 0 _)).trans (Wi.put _ _ 1 _)
      have HOF := hid (FO.less (base' := w.heap.size) (FO.put o2 hk2 (by decide) CF) (by have h1 := bA.size; have h2 := hB'.out.size; omega))
      have HBF := hid ((hB'.out.trans bB).then_wi CF HMW.out)
      have HRF := hid ((CF.block _ (blk_lt hR2) (by omega)).trans hR2)
      clear CF hk2 hR2 o2 bb bB bA bD ba
      refine last_ (i := 5) (N := none) #[true, true, true, true, true, true] rfl rfl (by kernel_rfl) (by decide) (fun K hK => ?_)
      refine skip_ (w1 := ?_) (by rfl) rfl ?_ ?_
      rotate_left
      · go_simp
        rfl
      refine hK.out _ _ ?_
      clear hK K
      refine done_ (by kernel_rfl) ?_
      clear s0 s1 f0 f1
      generalize hWZ : ((wb.setCell ⟨W2.heap.size, 0, none⟩ (.int .i64 ro)).setCell ⟨W2.heap.size, 1, none⟩ (.slice X2 (n' + 1) y2)) = wz at *
      clear hWZ m0 m1
      have m0 : wz.cell? ⟨W2.heap.size, 0, none⟩ = some (.int .i64 ro) := (blk_cell HF.out 0).trans rfl
      have m1 : wz.cell? ⟨W2.heap.size, 1, none⟩ = some (.slice X2 (n' + 1) y2) := (blk_cell HF.out 1).trans rfl
      go_wp2_with fail
      refine (spec_l05First ro X2 (n' + 1) y2 (splitC l' j) _ HOF.out.idR (meshOk_lvs HSP.out)).mono ?_
      rintro e_ wy ⟨rfl, b1⟩
      have hl2 := HOF.out.idR.len
      have hn2 : n' + 1 ≤ 128 := by have := (meshOk_len HSP.out).1; omega
      have HF2 := hid ((b1.out.block _ (blk_lt HF.out)).trans HF.out)
      have HR2 := hid ((b1.out.block _ (blk_lt HRF.out)).trans HRF.out)
      have HO2 := hid (HOF.out.to b1)
      have HB2 := hid (HBF.out.trans b1)
      have hme : sliceLen (wr.cell? ⟨W2.heap.size, 1, none⟩) = n' := by rw [(blk_cell hK'.out 1).trans (show _ = some (Value.slice X' n' y') from rfl)]; rfl
      have hme2 : sliceLen (wy.cell? ⟨W2.heap.size, 1, none⟩) = n' + 1 := by rw [(blk_cell HF2.out 1).trans (show _ = some (Value.slice X2 (n' + 1) y2) from rfl)]; rfl
      have HME := hid (show 200 - (n' + 1) < 200 - n' by omega)
      clear b1 hl2 m0 m1
      go_wp2
      go_roundw
      case rel => exact ⟨_, _, _, _, rfl, HSP, hy2, HO2, HF2, HR2, HB2⟩
      case measure => rw [hme, hme2]; exact HME.out
    · have t1 : decide (unbal l' ≥ 0) = false := decide_eq_false hge
      have HBAL := hid (show isBal ro l' = true by rw [isBal, hM'.out, Bool.true_and]; exact decide_eq_true (by omega))
      have hRk := hR'.out
      have ho := hO'.out
      have bb := hB'.out
      have s0 := (blk_cell hRk 0).trans (show _ = some (Value.int .i64 0) from rfl)
      have s1 := (blk_cell hRk 1).trans (show _ = some (Value.slice none 0 0) from rfl)
      have f0 := blk_frozen hRk 0
      have f1 := blk_frozen hRk 1
      have HF := hid (show ((wr.setCell ⟨w.heap.size + 1, 0, none⟩ (.int .i64 ro)).setCell ⟨w.heap.size + 1, 1, none⟩ (.slice X' n' y')).heap[w.heap.size + 1]? = some (.cells #[.int .i64 ro, .slice X' n' y'] 26 (0, 0)) from blk_set (blk_set hRk 0 _) 1 _)
      have CF : Wi wr ((wr.setCell ⟨w.heap.size + 1, 0, none⟩ (.int .i64 ro)).setCell ⟨w.heap.size + 1, 1, none⟩ (.slice X' n' y')) (w.heap.size + 1) (w.heap.size + 1 + 1) := ((Wi.refl wr _ _).trans (Wi.put _ _ 0 _)).trans (Wi.put _ _ 1 _)
      have HOF := hid (FO.put ho hRk (by decide) CF)
      have HBF := hid (bb.then_wi CF (by omega))
      clear CF hRk ho bb
      clear hge
      go_wp2
      refine bodyPost_ret (results_cell_row rfl _ _ (w.heap.size + 1) 26 #[.int .i64 ro, .slice X' n' y'] (0, 0) _ rfl HF.out Try.underlying26 rfl (by kernel_rfl)) rfl ?_
      exact ⟨_, _, _, _, rfl, HOF.out, hy', HBAL.out, HBF.out⟩
end Go.Proofs.Ytaidbdogolhnjaa.U
set_option linter.unusedVariables false
set_option linter.unusedSimpArgs false
namespace Go.Proofs.Ytaidbdogolhnjaa.U
open Go.RowKit Go.Lib Go.Proofs.YtaidbdogolhnjaaW.PrintWords

theorem grown_bw {a b : World} {row : Option Nat} (h : Bw a b) : a.grownBy b row := grown_of_below h.out row
theorem Cn.put {w w' : World} {base : Nat} {κ : Nat → Nat} {c t k n g : Nat} {v : Value} {F : List Int} {cs : Array Value} {e : TypeId} (h : Cn w base κ c t k v n F) (hg : w.heap[g]? = some (.cells cs e (0, 0))) (hne : t ≠ e) (hw : Wi w w' g (g + 1)) : Cn w' base κ c t k v n F := ⟨FO.put h.o hg hne hw, h.col⟩
/-- the blocks of a state that is drawn: the cursor g, the result R, the mesh's box Mb, the state's box Sb, the rows from base on -/
structure SK (w0 w : World) (g R Mb Sb base : Nat) (lv : Value) : Prop where
  hw0 : w0.heap.size ≤ w.heap.size
  hg : g < base
  wS : w.heap.size ≤ Sb
  wb : w.heap.size ≤ base
  Sg : Sb ≠ g
  Mg : Mb ≠ g
  Rg : R ≠ g
  SM : Sb ≠ Mb
  SR : Sb ≠ R
  hli : ∀ q, lv.ownBlock = some q → q < base
structure SD (w0 w W : World) (g R Mb Sb base : Nat) (κ : Nat → Nat) (ro : Int) (X : Option Addr) (n y : Nat) (l : List Ce) (mv tv bv : Value) (ms ts bd : List Int) : Prop where
  cur : Cur w0 W g
  st : W.heap[Sb]? = some (.cells #[.int .i64 ro, .slice X n y, mv, tv, bv] 29 (0, 0))
  me : W.heap[Mb]? = some (.cells #[.int .i64 ro, .slice X n y] 26 (0, 0))
  re : W.heap[R]? = some (.cells #[.int .i64 0, .slice none 0 0, .slice none 0 0, .slice none 0 0, .slice none 0 0] 29 (0, 0))
  li : FO W (g + 1) 58 3 (.slice X n y) n (idF l)
  m : Cn W base κ 1 3 1 mv ms.length ms
  t : Cn W base κ 2 3 1 tv ts.length ts
  b : Cn W base κ 3 3 1 bv bd.length bd
  gr : w.grownBy W (some g)
  sz : base ≤ W.heap.size
section
variable {w0 w W W' wd : World} {g R Mb Sb base : Nat} {κ : Nat → Nat} {ro : Int} {X : Option Addr} {n y : Nat} {l : List Ce} {mv tv bv v1 : Value} {ms ts bd : List Int}
theorem Cn.cur {c t k : Nat} {v : Value} {F : List Int} {m : Nat} (h : Cn W base κ c t k v m F) (hg : W.grownBy W' (some g)) (hb : g < base) : Cn W' base (paint κ W.heap.size 0) c t k v m F :=
  ⟨⟨own_other h.o.out hg (.inr fun e => by have := own_base h.o.out g e; omega)⟩, fun q hq => by
    rw [paint, if_neg (by have := h.hd q hq; omega)]
    exact h.col q hq⟩
theorem SD.draw (h : SD w0 w W g R Mb Sb base κ ro X n y l mv tv bv ms ts bd) (k : SK w0 w g R Mb Sb base (.slice X n y)) (hC0 : Cur w0 w g) (hC : Cur w0 W' g) (hg : W.grownBy W' (some g)) : SD w0 w W' g R Mb Sb base (paint κ W.heap.size 0) ro X n y l mv tv bv ms ts bd :=
  ⟨hC, blk_grown h.st hg (fun e => k.Sg (Option.some.inj e)), blk_grown h.me hg (fun e => k.Mg (Option.some.inj e)), blk_grown h.re hg (fun e => k.Rg (Option.some.inj e)), ⟨own_other h.li.out hg (.inr fun e => by have := own_base h.li.out g e; omega)⟩, h.m.cur hg k.hg, h.t.cur hg k.hg, h.b.cur hg k.hg,
    grown_cur hC0 hC (Nat.le_trans h.gr.size hg.size) (fun b hb hne => (hg.block b (by have := h.gr.size; omega) (fun e => hne (Option.some.inj e))).trans (h.gr.block b hb (fun e => hne (Option.some.inj e)))), Nat.le_trans h.sz hg.size⟩
theorem SD.bw (h : SD w0 w W g R Mb Sb base κ ro X n y l mv tv bv ms ts bd) (k : SK w0 w g R Mb Sb base (.slice X n y)) (hC0 : Cur w0 w g) (b : Bw W W') : SD w0 w W' g R Mb Sb base (paint κ W.heap.size 0) ro X n y l mv tv bv ms ts bd := h.draw k hC0 (h.cur.bw b) (grown_bw b)
theorem SD.app_m (h : SD w0 w W g R Mb Sb base κ ro X n y l mv tv bv ms ts bd) (k : SK w0 w g R Mb Sb base (.slice X n y)) (hC0 : Cur w0 w g) {x : Int} (od : wd.ownsRow base 3 1 v1 (ms.length + 1) (nums .i64 ms ++ [.int .i64 x])) (hgd : W.grownBy wd mv.ownBlock) (had : v1.ownBlock = mv.ownBlock ∨ ∃ q, v1.ownBlock = some q ∧ W.heap.size ≤ q) :
    SD w0 w (wd.setCell ⟨Sb, 2, none⟩ v1) g R Mb Sb base (paint κ W.heap.size 1) ro X n y l v1 tv bv (ms ++ [x]) ts bd := by
  have hst := blk_grown h.st hgd (own_ne h.m.o.out h.st (by decide))
  have hme := blk_grown h.me hgd (own_ne h.m.o.out h.me (by decide))
  have hre := blk_grown h.re hgd (own_ne h.m.o.out h.re (by decide))
  have hC : Cur w0 wd g := h.cur.grow hgd (fun j e => Nat.lt_of_lt_of_le k.hg (own_base h.m.o.out j e))
  have c := Wi.put wd Sb 2 v1
  have oF : FO wd base 3 1 v1 (ms ++ [x]).length (ms ++ [x]) := ⟨by rw [nums_append, List.length_append]; exact od⟩
  have hC2 : Cur w0 (wd.setCell ⟨Sb, 2, none⟩ v1) g := hC.set (Nat.le_trans k.hw0 k.wS) k.Sg _ _
  have hli : FO wd (g + 1) 58 3 (.slice X n y) n (idF l) := ⟨own_other h.li.out hgd (by
    rcases own_base' h.m.o.out with e | ⟨q, e, hq⟩
    · rcases own_base' h.li.out with e1 | ⟨p, e1, _⟩
      · exact .inl e1
      · exact .inr (by rw [e, e1]; intro h; cases h)
    · refine .inr fun e2 => ?_
      have := k.hli q (by rw [e2, e])
      omega)⟩
  refine ⟨hC2, (blk_set hst 2 v1).trans rfl, (c.block Mb (blk_lt hme) (by have := k.SM; omega)).trans hme, (c.block R (blk_lt hre) (by have := k.SR; omega)).trans hre, FO.put hli hst (by decide) c, Cn.put (h.m.app oF had) hst (by decide) c, Cn.put (h.t.grown h.m (by decide) hgd 1) hst (by decide) c, Cn.put (h.b.grown h.m (by decide) hgd 1) hst (by decide) c, grown_cur hC0 hC2 (Nat.le_trans h.gr.size (Nat.le_trans hgd.size c.size)) (fun b hb hne => ?_), Nat.le_trans h.sz (Nat.le_trans hgd.size c.size)⟩
  exact (c.block b (by have := h.gr.size; have := hgd.size; omega) (by have := k.wS; omega)).trans ((hgd.block b (by have := h.gr.size; omega) (fun e => by have := own_base h.m.o.out b e.symm; have := k.wb; omega)).trans (h.gr.block b hb (fun e => hne (Option.some.inj e))))

theorem SD.app_t (h : SD w0 w W g R Mb Sb base κ ro X n y l mv tv bv ms ts bd) (k : SK w0 w g R Mb Sb base (.slice X n y)) (hC0 : Cur w0 w g) {x : Int} (od : wd.ownsRow base 3 1 v1 (ts.length + 1) (nums .i64 ts ++ [.int .i64 x])) (hgd : W.grownBy wd tv.ownBlock) (had : v1.ownBlock = tv.ownBlock ∨ ∃ q, v1.ownBlock = some q ∧ W.heap.size ≤ q) :
    SD w0 w (wd.setCell ⟨Sb, 3, none⟩ v1) g R Mb Sb base (paint κ W.heap.size 2) ro X n y l mv v1 bv ms (ts ++ [x]) bd := by
  have hst := blk_grown h.st hgd (own_ne h.t.o.out h.st (by decide))
  have hme := blk_grown h.me hgd (own_ne h.t.o.out h.me (by decide))
  have hre := blk_grown h.re hgd (own_ne h.t.o.out h.re (by decide))
  have hC : Cur w0 wd g := h.cur.grow hgd (fun j e => Nat.lt_of_lt_of_le k.hg (own_base h.t.o.out j e))
  have c := Wi.put wd Sb 3 v1
  have oF : FO wd base 3 1 v1 (ts ++ [x]).length (ts ++ [x]) := ⟨by rw [nums_append, List.length_append]; exact od⟩
  have hC2 : Cur w0 (wd.setCell ⟨Sb, 3, none⟩ v1) g := hC.set (Nat.le_trans k.hw0 k.wS) k.Sg _ _
  have hli : FO wd (g + 1) 58 3 (.slice X n y) n (idF l) := ⟨own_other h.li.out hgd (by
    rcases own_base' h.t.o.out with e | ⟨q, e, hq⟩
    · rcases own_base' h.li.out with e1 | ⟨p, e1, _⟩
      · exact .inl e1
      · exact .inr (by rw [e, e1]; intro h; cases h)
    · refine .inr fun e2 => ?_
      have := k.hli q (by rw [e2, e])
      omega)⟩
  refine ⟨hC2, (blk_set hst 3 v1).trans rfl, (c.block Mb (blk_lt hme) (by have := k.SM; omega)).trans hme, (c.block R (blk_lt hre) (by have := k.SR; omega)).trans hre, FO.put hli hst (by decide) c, Cn.put (h.m.grown h.t (by decide) hgd 2) hst (by decide) c, Cn.put (h.t.app oF had) hst (by decide) c, Cn.put (h.b.grown h.t (by decide) hgd 2) hst (by decide) c, grown_cur hC0 hC2 (Nat.le_trans h.gr.size (Nat.le_trans hgd.size c.size)) (fun b hb hne => ?_), Nat.le_trans h.sz (Nat.le_trans hgd.size c.size)⟩
  exact (c.block b (by have := h.gr.size; have := hgd.size; omega) (by have := k.wS; omega)).trans ((hgd.block b (by have := h.gr.size; omega) (fun e => by have := own_base h.t.o.out b e.symm; have := k.wb; omega)).trans (h.gr.block b hb (fun e => hne (Option.some.inj e))))

theorem SD.app_b (h : SD w0 w W g R Mb Sb base κ ro X n y l mv tv bv ms ts bd) (k : SK w0 w g R Mb Sb base (.slice X n y)) (hC0 : Cur w0 w g) {x : Int} (od : wd.ownsRow base 3 1 v1 (bd.length + 1) (nums .i64 bd ++ [.int .i64 x])) (hgd : W.grownBy wd bv.ownBlock) (had : v1.ownBlock = bv.ownBlock ∨ ∃ q, v1.ownBlock = some q ∧ W.heap.size ≤ q) :
    SD w0 w (wd.setCell ⟨Sb, 4, none⟩ v1) g R Mb Sb base (paint κ W.heap.size 3) ro X n y l mv tv v1 ms ts (bd ++ [x]) := by
  have hst := blk_grown h.st hgd (own_ne h.b.o.out h.st (by decide))
  have hme := blk_grown h.me hgd (own_ne h.b.o.out h.me (by decide))
  have hre := blk_grown h.re hgd (own_ne h.b.o.out h.re (by decide))
  have hC : Cur w0 wd g := h.cur.grow hgd (fun j e => Nat.lt_of_lt_of_le k.hg (own_base h.b.o.out j e))
  have c := Wi.put wd Sb 4 v1
  have oF : FO wd base 3 1 v1 (bd ++ [x]).length (bd ++ [x]) := ⟨by rw [nums_append, List.length_append]; exact od⟩
  have hC2 : Cur w0 (wd.setCell ⟨Sb, 4, none⟩ v1) g := hC.set (Nat.le_trans k.hw0 k.wS) k.Sg _ _
  have hli : FO wd (g + 1) 58 3 (.slice X n y) n (idF l) := ⟨own_other h.li.out hgd (by
    rcases own_base' h.b.o.out with e | ⟨q, e, hq⟩
    · rcases own_base' h.li.out with e1 | ⟨p, e1, _⟩
      · exact .inl e1
      · exact .inr (by rw [e, e1]; intro h; cases h)
    · refine .inr fun e2 => ?_
      have := k.hli q (by rw [e2, e])
      omega)⟩
  refine ⟨hC2, (blk_set hst 4 v1).trans rfl, (c.block Mb (blk_lt hme) (by have := k.SM; omega)).trans hme, (c.block R (blk_lt hre) (by have := k.SR; omega)).trans hre, FO.put hli hst (by decide) c, Cn.put (h.m.grown h.b (by decide) hgd 3) hst (by decide) c, Cn.put (h.t.grown h.b (by decide) hgd 3) hst (by decide) c, Cn.put (h.b.app oF had) hst (by decide) c, grown_cur hC0 hC2 (Nat.le_trans h.gr.size (Nat.le_trans hgd.size c.size)) (fun b hb hne => ?_), Nat.le_trans h.sz (Nat.le_trans hgd.size c.size)⟩
  exact (c.block b (by have := h.gr.size; have := hgd.size; omega) (by have := k.wS; omega)).trans ((hgd.block b (by have := h.gr.size; omega) (fun e => by have := own_base h.b.o.out b e.symm; have := k.wb; omega)).trans (h.gr.block b hb (fun e => hne (Option.some.inj e))))

end
set_option maxHeartbeats 4000000 in
theorem l05Mesh (w0 : World) (g : Nat) (w : World) (hC : Cur w0 w g) :
    Calls Try.prog 50 #[.pointer (some ⟨g, 0, none⟩)] w fun e w' => ∃ ro X n y l, e = .returned (.agg #[.int .i64 ro, .slice X n y]) ∧ isBal ro l = true ∧ (1 ≤ ro ∧ ro ≤ 3) ∧ FO w' (g + 1) 58 3 (.slice X n y) n (idF l) ∧ Cur w0 w' g ∧ w.grownBy w' (some g) := by
  have b0 := Bw.box1 w (.cells #[.int .i64 0, .slice none 0 0] 26)
  have hR := heap_alloc_new w (.cells #[.int .i64 0, .slice none 0 0] 26 (0, 0))
  have hC1 := hC.bw b0
  have hRg : w.heap.size ≠ g := by have := hC.at_lt; omega
  go_enter Try.func50, Try.ntmps50
  go_wp2_with fail
  generalize (w.alloc (.cells #[.int .i64 0, .slice none 0 0] 26)) = W1 at *
  refine (l04Mesh w0 g _ hC1).mono ?_
  rintro e w2 ⟨ro, X, n, y, l, rfl, hm, ho, hC2, hG2⟩
  have hR2 := blk_grown hR hG2 (fun e => hRg (Option.some.inj e))
  go_wp2_with fail
  refine (spec_Balance ro X n y l _ ho.idR ho.room hm.ok).mono ?_
  rintro e w3 ⟨X3, n3, y3, l3, rfl, ho3, hy3, hb3, b3⟩
  have hRk := (b3.out.block _ (blk_lt hR2)).trans hR2
  have hC3 := hC2.bw b3
  have ho := FO.less (base' := g + 1) ho3 (by have := hC2.at_lt; omega)
  have s0 := (blk_cell hRk 0).trans (show _ = some (Value.int .i64 0) from rfl)
  have s1 := (blk_cell hRk 1).trans (show _ = some (Value.slice none 0 0) from rfl)
  have f0 := blk_frozen hRk 0
  have f1 := blk_frozen hRk 1
  have HF := hid (show ((w3.setCell ⟨w.heap.size, 0, none⟩ (.int .i64 ro)).setCell ⟨w.heap.size, 1, none⟩ (.slice X3 n3 y3)).heap[w.heap.size]? = some (.cells #[.int .i64 ro, .slice X3 n3 y3] 26 (0, 0)) from blk_set (blk_set hRk 0 _) 1 _)
  have CF : Wi w3 ((w3.setCell ⟨w.heap.size, 0, none⟩ (.int .i64 ro)).setCell ⟨w.heap.size, 1, none⟩ (.slice X3 n3 y3)) w.heap.size (w.heap.size + 1) := ((Wi.refl w3 _ _).trans (Wi.put _ _ 0 _)).trans (Wi.put _ _ 1 _)
  have HOF := hid (FO.put ho hRk (by decide) CF)
  have HCF := hid ((hC3.set (M := w.heap.size) hC.below.size hRg 0 (.int .i64 ro)).set (M := w.heap.size) hC.below.size hRg 1 (.slice X3 n3 y3))
  have HGW := hid (grown_cur hC HCF.out (by have h1 := b0.size; have h2 := hG2.size; have h3 := b3.size; have h4 := CF.size; omega) (fun b hb hne => by
    have h1 := b0.size
    have h2 := hG2.size
    have h3 := b3.size
    exact (CF.block b (by omega) (by omega)).trans ((b3.out.block b (by omega)).trans ((hG2.block b (by omega) (fun e => hne (Option.some.inj e))).trans (b0.out.block b hb)))))
  have HB3 := hid hb3
  have HRNG := hid hm.rng
  clear CF hRk hR hR2 ho ho3 hC1 hC2 hC3 hG2 b3 b0 hb3 hm
  go_wp2
  refine bodyPost_ret (results_cell_row rfl _ _ w.heap.size 26 #[.int .i64 ro, .slice X3 n3 y3] (0, 0) _ rfl HF.out Try.underlying26 rfl (by kernel_rfl)) rfl ?_
  exact ⟨_, _, _, _, _, rfl, HB3.out, HRNG.out, HOF.out, HCF.out, HGW.out⟩
end Go.Proofs.Ytaidbdogolhnjaa.U
