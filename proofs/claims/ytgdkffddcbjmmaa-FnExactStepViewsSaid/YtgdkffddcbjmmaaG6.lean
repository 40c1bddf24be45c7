
/- The part of a state, by the reference. -/
import Derived.Test.YtgdkffddcbjmmaaG5
import Derived.Test.YtgdkffddcbjmmaaWInvWords
set_option linter.unusedVariables false
set_option linter.unusedSimpArgs false
namespace Go.Proofs.Ytgdkffddcbjmmaa.U
open Go.RowKit Go.Lib Go.Proofs.YtgdkffddcbjmmaaW.PrintWords
open Go.Proofs.YtgdkffddcbjmmaaW.PrintLast Go.Proofs.YtgdkffddcbjmmaaW.PrintMore
def l24Part1T : Bool × List (List Nat × List Nat) := (true, [([], []), ([0], [0]), ([1], [1]), ([], []), ([], []), ([], []), ([5], [5]), ([6], [6]), ([], []), ([], []), ([7, 8, 9], [7, 8, 9]), ([4, 10], [4, 10]), ([], []), ([], []), ([13], [13]), ([], []), ([], []), ([14, 15, 16], [14, 15, 16]), ([12, 17, 11], [12, 17]), ([], []), ([], []), ([20], [20]), ([], []), ([], []), ([21, 22, 23], [21, 22, 23]), ([19, 24, 18], [19, 24]), ([], []), ([], []), ([27], [27]), ([26, 28, 25], [26, 28]), ([], []), ([2, 3, 11, 18, 25, 29, 30], [2, 3, 11, 18, 25, 29, 30]), ([], []), ([32, 31, 29, 0, 1, 2, 3, 4, 5, 6, 7, 8, 9, 10, 11, 12, 13, 14, 15, 16, 17, 18, 19, 20, 21, 22, 23, 24, 25, 26, 27, 28, 29, 30, 31, 32], [31, 32])])
def l24Part1B : List Nat := [0, 1, 3, 0, 0, 0, 32, 96, 0, 0, 992, 2032, 0, 0, 8192, 0, 0, 122880, 262128, 0, 0, 1048576, 0, 0, 15728640, 33554416, 0, 0, 134217728, 536870896, 0, 2147483647, 0, 8589934591]
theorem l24Part1tab : rtab .any (opsOf Try.f30 1) = l24Part1T := by kernel_rfl
theorem l24Part1bits : waitsOk l24Part1T.2 l24Part1B = true := by kernel_rfl
section
variable {P : Program} {ops : Array Oper} {o : Oper} {a : Act} {Q : Exit → Act → World → Prop} {Kc : Act → World → Prop}
theorem lit0F_step {W : World} (hw : Region.wanted o (yielded ops a.tmps) = true) {N : Tmp} (_hd : o.dst = some N) {e k : Nat}
  (hrun : (execOp a.eval o).run P W = .ok (.value (.slice (some ⟨W.heap.size, 0, none⟩) 0 0)) (W.alloc (.cells #[] e)))
  (h : ∀ X y w1, FO w1 W.heap.size e k (.slice X 0 y) 0 [] → Bw W w1 → Kc (a.put o.dst (.slice X 0 y)) w1) : if Region.wanted o (yielded ops a.tmps) = true then Oper.wp P o a W Kc Q else Kc (a.put o.dst undef) W :=
 event_step hw hrun (h _ _ _ ⟨World.ownsRow_lit (base := W.heap.size) (e := e) (size := k) W #[] 0 (Nat.le_refl _) (by simp [maxLen]) (by simp)⟩ ((Bw.refl W).alloc _))
theorem mk8_step {W : World} (hw : Region.wanted o (yielded ops a.tmps) = true) {N : Tmp} (_hd : o.dst = some N)
  (hrun : (execOp a.eval o).run P W = .ok (.value (.slice (some ⟨W.heap.size, 0, none⟩) 8 8)) (W.alloc (.cells #[.int .i64 0, .int .i64 0, .int .i64 0, .int .i64 0, .int .i64 0, .int .i64 0, .int .i64 0, .int .i64 0] 3)))
  (h : ∀ X y w1, FO w1 W.heap.size 3 1 (.slice X 8 y) 8 [0, 0, 0, 0, 0, 0, 0, 0] → Bw W w1 → Kc (a.put o.dst (.slice X 8 y)) w1) : if Region.wanted o (yielded ops a.tmps) = true then Oper.wp P o a W Kc Q else Kc (a.put o.dst undef) W :=
 event_step hw hrun (h _ _ _ ⟨own_lit W W.heap.size 3 .i64 [0, 0, 0, 0, 0, 0, 0, 0] (Nat.le_refl _) (by simp)⟩ ((Bw.refl W).alloc _))
end
def ghosts (s : Sta) (p q : Nat) : List Int := if p < q then ghost s ((p : Int) - 1) ++ ghost s (q : Int) else [0, 0, 0, 0, 0, 0, 0, 0]
structure PVw (w : World) (lo : Nat) (s : Sta) (p q : Nat) (vl vm vt vb vg : Value) : Prop where
 l : FO w lo 60 3 vl (q - p) (idF ((s.lv.take q).drop p))
 m : FO w lo 3 1 vm (q - p) ((s.ms.take q).drop p)
 t : FO w lo 3 1 vt (q - p) ((s.ts.take q).drop p)
 b : FO w lo 3 1 vb s.bd.length s.bd
 g : FO w lo 3 1 vg 8 (ghosts s p q)
 ap : Ap5 vl vm vt vb vg
theorem ghosts_len (s : Sta) (p q : Nat) : (ghosts s p q).length = 8 := by
 unfold ghosts
 split
 ·rw [List.length_append, ghost_len, ghost_len]
 ·rfl
theorem FO.wiB {w w' : World} {base t k n lo hi : Nat} {v : Value} {F : List Int} (h : FO w base t k v n F) (c : Wi w w' lo hi) (hd : hi ≤ base) : FO w' base t k v n F := ⟨own_move h.out fun q hq => c.block q (own_lt h.out q hq) (fun e => by have := own_base h.out q hq; omega)⟩
theorem FO.blkT {w : World} {base t k n g i : Nat} {v u : Value} {F : List Int} {cs : Array Value} {e : TypeId} (h : FO w base t k v n F) (hg : w.heap[g]? = some (.cells cs e (0, 0))) (hne : t ≠ e) : FO (w.setCell ⟨g, i, none⟩ u) base t k v n F := ⟨own_move h.out fun q hq => Below.heap_setCell w ⟨g, i, none⟩ u q (fun e2 => own_ne h.out hg hne (by simp at e2; rw [hq, e2]))⟩
theorem PVw.wiB {w w' : World} {lo a b : Nat} {s : Sta} {p q : Nat} {vl vm vt vb vg : Value} (h : PVw w lo s p q vl vm vt vb vg) (c : Wi w w' a b) (hd : b ≤ lo) : PVw w' lo s p q vl vm vt vb vg := ⟨h.l.wiB c hd, h.m.wiB c hd, h.t.wiB c hd, h.b.wiB c hd, h.g.wiB c hd, h.ap⟩
theorem PVw.forms {w : World} {lo : Nat} {s : Sta} {p q : Nat} {vl vm vt vb vg : Value} (h : PVw w lo s p q vl vm vt vb vg) : ∃ (X0 : Option Addr) (y0 : Nat) (X1 : Option Addr) (y1 : Nat) (X2 : Option Addr) (y2 : Nat) (X3 : Option Addr) (y3 : Nat) (X4 : Option Addr) (y4 : Nat), vl = .slice X0 (q - p) y0 ∧ vm = .slice X1 (q - p) y1 ∧ vt = .slice X2 (q - p) y2 ∧ vb = .slice X3 s.bd.length y3 ∧ vg = .slice X4 8 y4 := by
 obtain ⟨X0, y0, e0, _⟩ := h.l.reads
 obtain ⟨X1, y1, e1, _⟩ := h.m.reads
 obtain ⟨X2, y2, e2, _⟩ := h.t.reads
 obtain ⟨X3, y3, e3, _⟩ := h.b.reads
 obtain ⟨X4, y4, e4, _⟩ := h.g.reads
 exact ⟨X0, y0, X1, y1, X2, y2, X3, y3, X4, y4, e0, e1, e2, e3, e4⟩
theorem w7_blk0 {w : World} {g : Nat} {c0 c1 c2 c3 c4 c5 c6 u0 u1 u2 u3 u4 u5 u6 : Value} {e : TypeId} (h : w.heap[g]? = some (.cells #[c0, c1, c2, c3, c4, c5, c6] e (0, 0))) : (w7 w g 0 u0 u1 u2 u3 u4 u5 u6).heap[g]? = some (.cells #[u0, u1, u2, u3, u4, u5, u6] e (0, 0)) := by have h2 := w7_blk h 0 u0 u1 u2 u3 u4 u5 u6; simpa [set7] using h2
theorem Cn.store {w w' : World} {base : Nat} {κ : Nat → Nat} {c t k n g : Nat} {v : Value} {F : List Int} {cs : Array Value} {e : TypeId} (h : Cn w base κ c t k v n F) (hg : w.heap[g]? = some (.cells cs e (0, 0))) (hne : t ≠ e) (hw : Wi w w' g (g + 1)) : Cn w' base κ c t k v n F := ⟨⟨own_move h.o.out fun q hq => hw.block q (h.hd q hq) (fun e2 => own_ne h.o.out hg hne (by rw [hq, show q = g by omega]))⟩, h.col⟩
set_option maxHeartbeats 16000000 in
set_option maxRecDepth 100000 in
theorem spec_l24Part (x : Value) (s : Sta) (p q : Nat) (w : World) (hx : StC w x s) (hs : StF s) (hpq : p ≤ q) (hq : q ≤ s.lv.length) :
  Calls Try.prog 30 #[x, .int .i64 p, .int .i64 q] w fun e w' => ∃ vl vm vt vb vg, e = .returned (.agg #[.int .i64 s.ro, .int .i64 p, vl, vm, vt, vb, vg]) ∧ PVw w' (w.heap.size + 2) s p q vl vm vt vb vg ∧ w.heap.size + 2 ≤ w'.heap.size ∧ Bw w w' := by
 have hx0 := hx
 obtain ⟨A0, c0, A1, c1, A2, c2, A3, c3, rfl, r0, r1, r2, r3, k0, k1, k2, k3⟩ := hx
 obtain ⟨Bl, dl, hml, hrl, hdl⟩ := IdR.mid A0 _ c0 s.lv rfl k0 p q hpq hq
 obtain ⟨Bm, dm, hmm, hrm, hdm⟩ := RI.midN A1 _ c1 s.ms rfl k1 p q hpq (by have := hs.ms; omega)
 obtain ⟨Bt, dt, hmt, hrt, hdt⟩ := RI.midN A2 _ c2 s.ts rfl k2 p q hpq (by have := hs.ts; omega)
 have hln_11 : ((s.lv.take q).drop p).length = q - p := by rw [List.length_drop, List.length_take]; omega
 have hln_18 : ((s.ms.take q).drop p).length = q - p := by rw [List.length_drop, List.length_take]; have := hs.ms; omega
 have hln_25 : ((s.ts.take q).drop p).length = q - p := by rw [List.length_drop, List.length_take]; have := hs.ts; omega
 have hln_29 : s.bd.length = s.bd.length := rfl
 have b0 := Bw.box1 w (.cells #[.int .i64 s.ro, .slice A0 s.lv.length c0, .slice A1 s.ms.length c1, .slice A2 s.ts.length c2, .slice A3 s.bd.length c3] 39)
 have g0 := box_cell (Bw.refl (w.alloc (.cells #[.int .i64 s.ro, .slice A0 s.lv.length c0, .slice A1 s.ms.length c1, .slice A2 s.ts.length c2, .slice A3 s.bd.length c3] 39))) 0
 have g1 := box_cell (Bw.refl (w.alloc (.cells #[.int .i64 s.ro, .slice A0 s.lv.length c0, .slice A1 s.ms.length c1, .slice A2 s.ts.length c2, .slice A3 s.bd.length c3] 39))) 1
 have g2 := box_cell (Bw.refl (w.alloc (.cells #[.int .i64 s.ro, .slice A0 s.lv.length c0, .slice A1 s.ms.length c1, .slice A2 s.ts.length c2, .slice A3 s.bd.length c3] 39))) 2
 have g3 := box_cell (Bw.refl (w.alloc (.cells #[.int .i64 s.ro, .slice A0 s.lv.length c0, .slice A1 s.ms.length c1, .slice A2 s.ts.length c2, .slice A3 s.bd.length c3] 39))) 3
 have g4 := box_cell (Bw.refl (w.alloc (.cells #[.int .i64 s.ro, .slice A0 s.lv.length c0, .slice A1 s.ms.length c1, .slice A2 s.ts.length c2, .slice A3 s.bd.length c3] 39))) 4
 simp only [List.getElem?_toArray, List.getElem?_cons_zero, List.getElem?_cons_succ] at g0 g1 g2 g3 g4
 have hk8 : ∀ W : World, (Instr.makeSlice 32 (.int .i64 8) (.int .i64 8)).run Try.prog W = .ok (.slice (some ⟨W.heap.size, 0, none⟩) 8 8) (W.alloc (.cells #[.int .i64 0, .int .i64 0, .int .i64 0, .int .i64 0, .int .i64 0, .int .i64 0, .int .i64 0, .int .i64 0] 3)) := make_lit 8 (by omega) _ (by kernel_rfl)
 have HK8 := hid hk8
 clear hk8
 have b1 := Bw.box1 (w.alloc (.cells #[.int .i64 s.ro, .slice A0 s.lv.length c0, .slice A1 s.ms.length c1, .slice A2 s.ts.length c2, .slice A3 s.bd.length c3] 39)) (.cells #[.int .i64 0, .int .i64 0, .slice none 0 0, .slice none 0 0, .slice none 0 0, .slice none 0 0, .slice none 0 0] 46)
 replace g0 := pw_cell_below b1.out g0
 replace g1 := pw_cell_below b1.out g1
 replace g2 := pw_cell_below b1.out g2
 replace g3 := pw_cell_below b1.out g3
 replace g4 := pw_cell_below b1.out g4
 have b0' := b0.trans b1
 have hw1 := b0'.size
 have hw0 : ((w.alloc (.cells #[.int .i64 s.ro, .slice A0 s.lv.length c0, .slice A1 s.ms.length c1, .slice A2 s.ts.length c2, .slice A3 s.bd.length c3] 39)).alloc (.cells #[.int .i64 0, .int .i64 0, .slice none 0 0, .slice none 0 0, .slice none 0 0, .slice none 0 0, .slice none 0 0] 46)).heap.size ≤ w.heap.size + 2 := by simp
 have HWE := hid (show ((w.alloc (.cells #[.int .i64 s.ro, .slice A0 s.lv.length c0, .slice A1 s.ms.length c1, .slice A2 s.ts.length c2, .slice A3 s.bd.length c3] 39)).alloc (.cells #[.int .i64 0, .int .i64 0, .slice none 0 0, .slice none 0 0, .slice none 0 0, .slice none 0 0, .slice none 0 0] 46)).heap.size = w.heap.size + 2 by simp)
 have HR := heap_alloc_new (w.alloc (.cells #[.int .i64 s.ro, .slice A0 s.lv.length c0, .slice A1 s.ms.length c1, .slice A2 s.ts.length c2, .slice A3 s.bd.length c3] 39)) (.cells #[.int .i64 0, .int .i64 0, .slice none 0 0, .slice none 0 0, .slice none 0 0, .slice none 0 0, .slice none 0 0] 46 (0, 0))
 rw [show (w.alloc (.cells #[.int .i64 s.ro, .slice A0 s.lv.length c0, .slice A1 s.ms.length c1, .slice A2 s.ts.length c2, .slice A3 s.bd.length c3] 39)).heap.size = w.heap.size + 1 by simp] at HR
 clear b0 b1
 go_enter Try.func30, Try.ntmps30
 go_upto_region 1 with fail
 generalize ((w.alloc (.cells #[.int .i64 s.ro, .slice A0 s.lv.length c0, .slice A1 s.ms.length c1, .slice A2 s.ts.length c2, .slice A3 s.bd.length c3] 39)).alloc (.cells #[.int .i64 0, .int .i64 0, .slice none 0 0, .slice none 0 0, .slice none 0 0, .slice none 0 0, .slice none 0 0] 46)) = W1 at *
 go_cut [7] from 8 to 39 (fun v7 wx => ∃ (G : Nat) (κ : Nat → Nat) (z11 z18 z25 z29 z30 : Value), v7 = .pointer (some ⟨G, 0, none⟩) ∧ W1.heap.size ≤ G ∧ wx.heap[G]? = some (.cells #[.int .i64 s.ro, .int .i64 p, z11, z18, z25, z29, z30] 46 (0, 0)) ∧ Cn wx W1.heap.size κ 0 60 3 z11 (q - p) (idF ((s.lv.take q).drop p)) ∧ Cn wx W1.heap.size κ 1 3 1 z18 (q - p) ((s.ms.take q).drop p) ∧ Cn wx W1.heap.size κ 2 3 1 z25 (q - p) ((s.ts.take q).drop p) ∧ Cn wx W1.heap.size κ 3 3 1 z29 s.bd.length s.bd ∧ Cn wx W1.heap.size κ 4 3 1 z30 8 [0, 0, 0, 0, 0, 0, 0, 0] ∧ Bw W1 wx)
 case first =>
  have BW := Aside0.mk (Bw.refl W1)
  have HT_ := Aside0.mk l24Part1tab
  have HW_ := Aside0.mk l24Part1bits
  refine start_ (n := 34) (S := fun w' => True) (ds := []) #[false, false, false, false, false, false, false, false, false, false, false, false, false, false, false, false, false, false, false, false, false, false, false, false, false, false, false, false, false, false, false, false, false, false] (by kernel_rfl) rfl rfl trivial (fun hHeld => ?_)
  refine pq_ (i := 0) (N := some 8) (v := ?_) (a' := ?_) rfl rfl (by kernel_rfl) (fun _ _ _ h => h) (Or.inl ⟨by rfl, ?_⟩) ?_ ?_
  rotate_left; (intro w'; go_simp; with_reducible rfl); rotate_left; (simp only [Act.put, s1_, s2_, s3_, i64_w, i32_w]; rfl)
  refine pq_ (i := 1) (N := some 9) (v := ?_) (a' := ?_) rfl rfl (by kernel_rfl) (fun _ _ _ h => h) (Or.inl ⟨by rfl, ?_⟩) ?_ ?_
  rotate_left; (intro w'; go_simp; with_reducible rfl); rotate_left; (simp only [Act.put, s1_, s2_, s3_, i64_w, i32_w]; rfl)
  refine pq_ (i := 3) (N := some 11) (v := ?_) (a' := ?_) rfl rfl (by kernel_rfl) (fun _ _ _ h => h) (Or.inl ⟨by rfl, ?_⟩) ?_ ?_
  rotate_left; (intro w'; go_simp; with_reducible rfl); rotate_left; (simp only [Act.put, s1_, s2_, s3_, i64_w, i32_w]; rfl)
  refine pq_ (i := 5) (N := some 13) (v := ?_) (a' := ?_) rfl rfl (by kernel_rfl) (fun _ _ _ h => h) (Or.inl ⟨by rfl, ?_⟩) ?_ ?_
  rotate_left; (intro w'; go_simp; with_reducible rfl); rotate_left; (simp only [Act.put, s1_, s2_, s3_, i64_w, i32_w]; rfl)
  refine pq_ (i := 6) (N := some 14) (v := ?_) (a' := ?_) rfl rfl (by kernel_rfl) (fun _ _ _ h => h) (Or.inl ⟨by rfl, ?_⟩) ?_ ?_
  rotate_left; (intro w'; go_simp; with_reducible rfl); rotate_left; (simp only [Act.put, s1_, s2_, s3_, i64_w, i32_w]; rfl)
  refine pq_ (i := 8) (N := some 16) (v := ?_) (a' := ?_) rfl rfl (by kernel_rfl) (fun _ _ _ h => h) (Or.inl ⟨by rfl, ?_⟩) ?_ ?_
  rotate_left; (intro w'; go_simp; with_reducible rfl); rotate_left; (simp only [Act.put, s1_, s2_, s3_, i64_w, i32_w]; rfl)
  refine pq_ (i := 9) (N := some 17) (v := ?_) (a' := ?_) rfl rfl (by kernel_rfl) (fun _ _ _ h => h) (Or.inl ⟨by rfl, ?_⟩) ?_ ?_
  rotate_left; (intro w'; go_simp; with_reducible rfl); rotate_left; (simp only [Act.put, s1_, s2_, s3_, i64_w, i32_w]; rfl)
  refine pq_ (i := 13) (N := some 21) (v := ?_) (a' := ?_) rfl rfl (by kernel_rfl) (fun _ _ _ h => h) (Or.inl ⟨by rfl, ?_⟩) ?_ ?_
  rotate_left; (intro w'; go_simp; with_reducible rfl); rotate_left; (simp only [Act.put, s1_, s2_, s3_, i64_w, i32_w]; rfl)
  refine pq_ (i := 15) (N := some 23) (v := ?_) (a' := ?_) rfl rfl (by kernel_rfl) (fun _ _ _ h => h) (Or.inl ⟨by rfl, ?_⟩) ?_ ?_
  rotate_left; (intro w'; go_simp; with_reducible rfl); rotate_left; (simp only [Act.put, s1_, s2_, s3_, i64_w, i32_w]; rfl)
  refine pq_ (i := 16) (N := some 24) (v := ?_) (a' := ?_) rfl rfl (by kernel_rfl) (fun _ _ _ h => h) (Or.inl ⟨by rfl, ?_⟩) ?_ ?_
  rotate_left; (intro w'; go_simp; with_reducible rfl); rotate_left; (simp only [Act.put, s1_, s2_, s3_, i64_w, i32_w]; rfl)
  refine pq_ (i := 20) (N := some 28) (v := ?_) (a' := ?_) rfl rfl (by kernel_rfl) (fun _ _ _ h => h) (Or.inl ⟨by rfl, ?_⟩) ?_ ?_
  rotate_left; (intro w'; go_simp; with_reducible rfl); rotate_left; (simp only [Act.put, s1_, s2_, s3_, i64_w, i32_w]; rfl)
  refine pq_ (i := 22) (N := some 30) (v := ?_) (a' := ?_) rfl rfl (by kernel_rfl) (fun _ _ _ h => h) (Or.inl ⟨by rfl, ?_⟩) ?_ ?_
  rotate_left; (intro w'; go_simp; with_reducible rfl); rotate_left; (simp only [Act.put, s1_, s2_, s3_, i64_w, i32_w]; rfl)
  refine pq_ (i := 23) (N := some 31) (v := ?_) (a' := ?_) rfl rfl (by kernel_rfl) (fun _ _ _ h => h) (Or.inl ⟨by rfl, ?_⟩) ?_ ?_
  rotate_left; (intro w'; go_simp; with_reducible rfl); rotate_left; (simp only [Act.put, s1_, s2_, s3_, i64_w, i32_w]; rfl)
  refine pq_ (i := 27) (N := some 35) (v := ?_) (a' := ?_) rfl rfl (by kernel_rfl) (fun _ _ _ h => h) (Or.inl ⟨by rfl, ?_⟩) ?_ ?_
  rotate_left; (intro w'; go_simp; with_reducible rfl); rotate_left; (simp only [Act.put, s1_, s2_, s3_, i64_w, i32_w]; rfl)
  refine inv_at [2, 4, 7, 10, 11, 12, 14, 17, 18, 19, 21, 24, 25, 26, 28, 29, 30, 31, 32, 33] (fun a0_ b a w' => ∃ (κ : Nat → Nat) (z4 : Value) (z11 : Value) (z12 : Value) (z18 : Value) (z19 : Value) (z25 : Value) (z26 : Value) (z29 : Value) (z30 : Value) (gB : Nat) (m31_ : Value) (m32_ : Value), a = putSel a0_ b [(2, 10, .int .i64 s.ro), (4, 12, z4), (7, 15, .slice A0 s.lv.length c0), (10, 18, .slice Bl (q - p) dl), (11, 19, z11), (12, 20, z12), (14, 22, .slice A1 s.ms.length c1), (17, 25, .slice Bm (q - p) dm), (18, 26, z18), (19, 27, z19), (21, 29, .slice A2 s.ts.length c2), (24, 32, .slice Bt (q - p) dt), (25, 33, z25), (26, 34, z26), (28, 36, .slice A3 s.bd.length c3), (29, 37, z29), (30, 38, z30), (31, 39, m31_), (32, 7, m32_)] ∧ (Bw W1 w') ∧ (b 4 = true → b 11 = false → Cn w' W1.heap.size κ 0 60 3 z4 0 []) ∧ (b 11 = true → Cn w' W1.heap.size κ 0 60 3 z11 (q - p) (idF ((s.lv.take q).drop p))) ∧ (b 12 = true → b 18 = false → Cn w' W1.heap.size κ 1 3 1 z12 0 []) ∧ (b 18 = true → Cn w' W1.heap.size κ 1 3 1 z18 (q - p) ((s.ms.take q).drop p)) ∧ (b 19 = true → b 25 = false → Cn w' W1.heap.size κ 2 3 1 z19 0 []) ∧ (b 25 = true → Cn w' W1.heap.size κ 2 3 1 z25 (q - p) ((s.ts.take q).drop p)) ∧ (b 26 = true → b 29 = false → Cn w' W1.heap.size κ 3 3 1 z26 0 []) ∧ (b 29 = true → Cn w' W1.heap.size κ 3 3 1 z29 s.bd.length s.bd) ∧ (b 30 = true → Cn w' W1.heap.size κ 4 3 1 z30 8 [0, 0, 0, 0, 0, 0, 0, 0]) ∧ (b 32 = true → W1.heap.size ≤ gB) ∧ (b 32 = true → b 33 = false → w'.heap[gB]? = some (.cells #[.int .i64 0, .int .i64 0, .slice none 0 0, .slice none 0 0, .slice none 0 0, .slice none 0 0, .slice none 0 0] 46 (0, 0))) ∧ (b 33 = true → w'.heap[gB]? = some (.cells #[.int .i64 s.ro, .int .i64 p, z11, z18, z25, z29, z30] 46 (0, 0))) ∧ (b 31 = true → (m31_ : Value) = .agg #[.int .i64 s.ro, .int .i64 p, z11, z18, z25, z29, z30]) ∧ (b 32 = true → (m32_ : Value) = .pointer (some ⟨gB, 0, none⟩))) HT_.out HW_.out (by kernel_rfl) (by kernel_rfl) ?_ ?_ ?_
  ·exact ⟨fun _ => 0, .slice none 0 0, .slice none 0 0, .slice none 0 0, .slice none 0 0, .slice none 0 0, .slice none 0 0, .slice none 0 0, .slice none 0 0, .slice none 0 0, 0, .bool false, .bool false, by simp only [putSel, Bool.false_eq_true, if_false], BW.out.trans (Bw.drawn ⟨⟨1, rfl⟩⟩), fun h_ => absurd h_ (by decide), fun h_ => absurd h_ (by decide), fun h_ => absurd h_ (by decide), fun h_ => absurd h_ (by decide), fun h_ => absurd h_ (by decide), fun h_ => absurd h_ (by decide), fun h_ => absurd h_ (by decide), fun h_ => absurd h_ (by decide), fun h_ => absurd h_ (by decide), fun h_ => absurd h_ (by decide), fun h_ => absurd h_ (by decide), fun h_ => absurd h_ (by decide), fun h_ => absurd h_ (by decide), fun h_ => absurd h_ (by decide)⟩
  ·skip
   clear BW
   refine steps_cons ?_ ?_
   ·rintro b a w' ⟨κ, z4, z11, z12, z18, z19, z25, z26, z29, z30, gB, m31_, m32_, ha, Q_BW, Q_L4, Q_R11, Q_L12, Q_R18, Q_L19, Q_R25, Q_L26, Q_R29, Q_R30, Q_GE, Q_BX, Q_BY, Q_X31_, Q_X32_⟩ hb_ hon hoff
    refine ⟨_, rfl, fun K hK => ?_⟩
    have e9 : a.tmps[9]? = some (.pointer (some ⟨w.heap.size, 0, none⟩)) := by rw [ha]; exact (putSel_off rfl).trans rfl
    replace ha := Aside0.mk ha
    have BW := Aside0.mk Q_BW
    have hc_ := pw_cell_below BW.out.out g0
    refine value_ (w1 := w') (v := .int .i64 s.ro) (by rfl) rfl ?_ ?_
    ·go_simp
     (try simp only [i64_w])
     try rfl
    refine hK.out _ _ ⟨κ, z4, z11, z12, z18, z19, z25, z26, z29, z30, gB, m31_, m32_, (by rw [ha.out]; exact putSel_upk 0 hb_ rfl rfl rfl), Q_BW, Q_L4, Q_R11, Q_L12, Q_R18, Q_L19, Q_R25, Q_L26, Q_R29, Q_R30, Q_GE, Q_BX, fun h0_ => absurd ((hoff 33 (by kernel_rfl)).symm.trans h0_) (by decide), fun h0_ => absurd ((hoff 31 (by kernel_rfl)).symm.trans h0_) (by decide), Q_X32_⟩
   refine steps_cons ?_ ?_
   ·rintro b a w' ⟨κ, z4, z11, z12, z18, z19, z25, z26, z29, z30, gB, m31_, m32_, ha, Q_BW, Q_L4, Q_R11, Q_L12, Q_R18, Q_L19, Q_R25, Q_L26, Q_R29, Q_R30, Q_GE, Q_BX, Q_BY, Q_X31_, Q_X32_⟩ hb_ hon hoff
    refine ⟨_, rfl, fun K hK => ?_⟩
    replace ha := Aside0.mk ha
    have BW := Aside0.mk Q_BW
    have hsz : W1.heap.size ≤ w'.heap.size := BW.out.size
    refine lit0F_step (N := 12) (e := 60) (k := 3) ?hg ?hd ?hr ?_; (case hd => rfl); (case hg => rfl); (case hr => first | (go_simp; done) | (go_simp; rfl))
    intro XL yL wL oL bL
    refine hK.out _ _ ⟨(paint κ w'.heap.size 0), (.slice XL 0 yL), z11, z12, z18, z19, z25, z26, z29, z30, gB, m31_, m32_, (by rw [ha.out]; exact putSel_upk 1 hb_ rfl rfl rfl), BW.out.trans bL, fun _ _ => oL.cn hsz, fun h0_ => absurd ((hoff 11 (by kernel_rfl)).symm.trans h0_) (by decide), fun h0_ h1_ => (Q_L12 h0_ h1_).to bL 0, fun h0_ => absurd ((hoff 18 (by kernel_rfl)).symm.trans h0_) (by decide), fun h0_ h1_ => (Q_L19 h0_ h1_).to bL 0, fun h0_ => absurd ((hoff 25 (by kernel_rfl)).symm.trans h0_) (by decide), fun h0_ h1_ => (Q_L26 h0_ h1_).to bL 0, fun h0_ => absurd ((hoff 29 (by kernel_rfl)).symm.trans h0_) (by decide), fun h0_ => (Q_R30 h0_).to bL 0, fun h0_ => (Q_GE h0_), fun h0_ h1_ => (bL.out.block _ (blk_lt (Q_BX h0_ h1_))).trans (Q_BX h0_ h1_), fun h0_ => absurd ((hoff 33 (by kernel_rfl)).symm.trans h0_) (by decide), fun h0_ => absurd ((hoff 31 (by kernel_rfl)).symm.trans h0_) (by decide), Q_X32_⟩
   refine steps_cons ?_ ?_
   ·rintro b a w' ⟨κ, z4, z11, z12, z18, z19, z25, z26, z29, z30, gB, m31_, m32_, ha, Q_BW, Q_L4, Q_R11, Q_L12, Q_R18, Q_L19, Q_R25, Q_L26, Q_R29, Q_R30, Q_GE, Q_BX, Q_BY, Q_X31_, Q_X32_⟩ hb_ hon hoff
    refine ⟨_, rfl, fun K hK => ?_⟩
    have e14 : a.tmps[14]? = some (.pointer (some ⟨w.heap.size, 1, none⟩)) := by rw [ha]; exact (putSel_off rfl).trans rfl
    replace ha := Aside0.mk ha
    have BW := Aside0.mk Q_BW
    have hc_ := pw_cell_below BW.out.out g1
    refine value_ (w1 := w') (v := .slice A0 s.lv.length c0) (by rfl) rfl ?_ ?_
    ·go_simp
     (try simp only [i64_w])
     try rfl
    refine hK.out _ _ ⟨κ, z4, z11, z12, z18, z19, z25, z26, z29, z30, gB, m31_, m32_, (by rw [ha.out]; exact putSel_upk 2 hb_ rfl rfl rfl), Q_BW, Q_L4, fun h0_ => absurd ((hoff 11 (by kernel_rfl)).symm.trans h0_) (by decide), Q_L12, fun h0_ => absurd ((hoff 18 (by kernel_rfl)).symm.trans h0_) (by decide), Q_L19, fun h0_ => absurd ((hoff 25 (by kernel_rfl)).symm.trans h0_) (by decide), Q_L26, fun h0_ => absurd ((hoff 29 (by kernel_rfl)).symm.trans h0_) (by decide), Q_R30, Q_GE, Q_BX, fun h0_ => absurd ((hoff 33 (by kernel_rfl)).symm.trans h0_) (by decide), fun h0_ => absurd ((hoff 31 (by kernel_rfl)).symm.trans h0_) (by decide), Q_X32_⟩
   refine steps_cons ?_ ?_
   ·rintro b a w' ⟨κ, z4, z11, z12, z18, z19, z25, z26, z29, z30, gB, m31_, m32_, ha, Q_BW, Q_L4, Q_R11, Q_L12, Q_R18, Q_L19, Q_R25, Q_L26, Q_R29, Q_R30, Q_GE, Q_BX, Q_BY, Q_X31_, Q_X32_⟩ hb_ hon hoff
    refine ⟨_, rfl, fun K hK => ?_⟩
    have e15 : a.tmps[15]? = some (.slice A0 s.lv.length c0) := by rw [ha]; exact putSel_on (e := (7, 15, .slice A0 s.lv.length c0)) 2 rfl rfl (hon 7 (by kernel_rfl)) rfl
    have e16 : a.tmps[16]? = some (.int .i64 p) := by rw [ha]; exact (putSel_off rfl).trans rfl
    have e17 : a.tmps[17]? = some (.int .i64 q) := by rw [ha]; exact (putSel_off rfl).trans rfl
    replace ha := Aside0.mk ha
    have BW := Aside0.mk Q_BW
    have hm_ := hml
    refine value_ (w1 := w') (v := .slice Bl (q - p) dl) (by rfl) rfl ?_ ?_
    ·go_simp
     (try simp only [i64_w])
     try rfl
    refine hK.out _ _ ⟨κ, z4, z11, z12, z18, z19, z25, z26, z29, z30, gB, m31_, m32_, (by rw [ha.out]; exact putSel_upk 3 hb_ rfl rfl rfl), Q_BW, Q_L4, fun h0_ => absurd ((hoff 11 (by kernel_rfl)).symm.trans h0_) (by decide), Q_L12, fun h0_ => absurd ((hoff 18 (by kernel_rfl)).symm.trans h0_) (by decide), Q_L19, fun h0_ => absurd ((hoff 25 (by kernel_rfl)).symm.trans h0_) (by decide), Q_L26, fun h0_ => absurd ((hoff 29 (by kernel_rfl)).symm.trans h0_) (by decide), Q_R30, Q_GE, Q_BX, fun h0_ => absurd ((hoff 33 (by kernel_rfl)).symm.trans h0_) (by decide), fun h0_ => absurd ((hoff 31 (by kernel_rfl)).symm.trans h0_) (by decide), Q_X32_⟩
   refine steps_cons ?_ ?_
   ·rintro b a w' ⟨κ, z4, z11, z12, z18, z19, z25, z26, z29, z30, gB, m31_, m32_, ha, Q_BW, Q_L4, Q_R11, Q_L12, Q_R18, Q_L19, Q_R25, Q_L26, Q_R29, Q_R30, Q_GE, Q_BX, Q_BY, Q_X31_, Q_X32_⟩ hb_ hon hoff
    refine ⟨_, rfl, fun K hK => ?_⟩
    have e12 : a.tmps[12]? = some (z4) := by rw [ha]; exact putSel_on (e := (4, 12, z4)) 1 rfl rfl (hon 4 (by kernel_rfl)) rfl
    have e18 : a.tmps[18]? = some (.slice Bl (q - p) dl) := by rw [ha]; exact putSel_on (e := (10, 18, .slice Bl (q - p) dl)) 3 rfl rfl (hon 10 (by kernel_rfl)) rfl
    replace ha := Aside0.mk ha
    have BW := Aside0.mk Q_BW
    have L4 := Aside0.mk (Q_L4 (hon 4 (by kernel_rfl)) hb_)
    have hsz : W1.heap.size ≤ w'.heap.size := BW.out.size
    have hle := Nat.le_refl W1.heap.size
    refine appendIds_step (w0 := W1) W1.heap.size (by rfl) (.tmp 12) (.tmp 18) rfl z4 [] ((s.lv.take q).drop p) Bl (q - p) dl (by simp only [Act.eval, Array.getD_eq_getD_getElem?, Option.getD_some, e12]) (by simp only [Act.eval, Array.getD_eq_getD_getElem?, Option.getD_some, e18]) L4.out.o (hrl _ ((r0.to b0').to BW.out)) BW.out.out hsz (by have := hs.n; have := hs.bd; simp; omega) ?_
    intro v1 w8 ho8 hB8 hg8 ha8
    have ho9 : FO w8 W1.heap.size 60 3 v1 (q - p) (idF ((s.lv.take q).drop p)) := by simpa [hln_11] using ho8
    refine hK.out _ _ ⟨(paint κ w'.heap.size 0), z4, v1, z12, z18, z19, z25, z26, z29, z30, gB, m31_, m32_, (by rw [ha.out]; exact putSel_upk 4 hb_ rfl rfl rfl), L4.out.bw hg8 BW.out hle, fun _ h1_ => absurd ((up_self b 11).symm.trans h1_) (by decide), fun _ => L4.out.app ho9 ha8, fun h0_ h1_ => (Q_L12 h0_ h1_).grown L4.out (by decide) hg8 0, fun h0_ => absurd ((hoff 18 (by kernel_rfl)).symm.trans h0_) (by decide), fun h0_ h1_ => (Q_L19 h0_ h1_).grown L4.out (by decide) hg8 0, fun h0_ => absurd ((hoff 25 (by kernel_rfl)).symm.trans h0_) (by decide), fun h0_ h1_ => (Q_L26 h0_ h1_).grown L4.out (by decide) hg8 0, fun h0_ => absurd ((hoff 29 (by kernel_rfl)).symm.trans h0_) (by decide), fun h0_ => (Q_R30 h0_).grown L4.out (by decide) hg8 0, fun h0_ => (Q_GE h0_), fun h0_ h1_ => blk_grown (Q_BX h0_ h1_) hg8 (own_ne L4.out.o.out (Q_BX h0_ h1_) (by decide)), fun h0_ => absurd ((hoff 33 (by kernel_rfl)).symm.trans h0_) (by decide), fun h0_ => absurd ((hoff 31 (by kernel_rfl)).symm.trans h0_) (by decide), Q_X32_⟩
   refine steps_cons ?_ ?_
   ·rintro b a w' ⟨κ, z4, z11, z12, z18, z19, z25, z26, z29, z30, gB, m31_, m32_, ha, Q_BW, Q_L4, Q_R11, Q_L12, Q_R18, Q_L19, Q_R25, Q_L26, Q_R29, Q_R30, Q_GE, Q_BX, Q_BY, Q_X31_, Q_X32_⟩ hb_ hon hoff
    refine ⟨_, rfl, fun K hK => ?_⟩
    replace ha := Aside0.mk ha
    have BW := Aside0.mk Q_BW
    have hsz : W1.heap.size ≤ w'.heap.size := BW.out.size
    refine lit0F_step (N := 20) (e := 3) (k := 1) ?hg ?hd ?hr ?_; (case hd => rfl); (case hg => rfl); (case hr => first | (go_simp; done) | (go_simp; rfl))
    intro XL yL wL oL bL
    refine hK.out _ _ ⟨(paint κ w'.heap.size 1), z4, z11, (.slice XL 0 yL), z18, z19, z25, z26, z29, z30, gB, m31_, m32_, (by rw [ha.out]; exact putSel_upk 5 hb_ rfl rfl rfl), BW.out.trans bL, fun h0_ h1_ => (Q_L4 h0_ h1_).to bL 1, fun h0_ => (Q_R11 h0_).to bL 1, fun _ _ => oL.cn hsz, fun h0_ => absurd ((hoff 18 (by kernel_rfl)).symm.trans h0_) (by decide), fun h0_ h1_ => (Q_L19 h0_ h1_).to bL 1, fun h0_ => absurd ((hoff 25 (by kernel_rfl)).symm.trans h0_) (by decide), fun h0_ h1_ => (Q_L26 h0_ h1_).to bL 1, fun h0_ => absurd ((hoff 29 (by kernel_rfl)).symm.trans h0_) (by decide), fun h0_ => (Q_R30 h0_).to bL 1, fun h0_ => (Q_GE h0_), fun h0_ h1_ => (bL.out.block _ (blk_lt (Q_BX h0_ h1_))).trans (Q_BX h0_ h1_), fun h0_ => absurd ((hoff 33 (by kernel_rfl)).symm.trans h0_) (by decide), fun h0_ => absurd ((hoff 31 (by kernel_rfl)).symm.trans h0_) (by decide), Q_X32_⟩
   refine steps_cons ?_ ?_
   ·rintro b a w' ⟨κ, z4, z11, z12, z18, z19, z25, z26, z29, z30, gB, m31_, m32_, ha, Q_BW, Q_L4, Q_R11, Q_L12, Q_R18, Q_L19, Q_R25, Q_L26, Q_R29, Q_R30, Q_GE, Q_BX, Q_BY, Q_X31_, Q_X32_⟩ hb_ hon hoff
    refine ⟨_, rfl, fun K hK => ?_⟩
    have e21 : a.tmps[21]? = some (.pointer (some ⟨w.heap.size, 2, none⟩)) := by rw [ha]; exact (putSel_off rfl).trans rfl
    replace ha := Aside0.mk ha
    have BW := Aside0.mk Q_BW
    have hc_ := pw_cell_below BW.out.out g2
    refine value_ (w1 := w') (v := .slice A1 s.ms.length c1) (by rfl) rfl ?_ ?_
    ·go_simp
     (try simp only [i64_w])
     try rfl
    refine hK.out _ _ ⟨κ, z4, z11, z12, z18, z19, z25, z26, z29, z30, gB, m31_, m32_, (by rw [ha.out]; exact putSel_upk 6 hb_ rfl rfl rfl), Q_BW, Q_L4, Q_R11, Q_L12, fun h0_ => absurd ((hoff 18 (by kernel_rfl)).symm.trans h0_) (by decide), Q_L19, fun h0_ => absurd ((hoff 25 (by kernel_rfl)).symm.trans h0_) (by decide), Q_L26, fun h0_ => absurd ((hoff 29 (by kernel_rfl)).symm.trans h0_) (by decide), Q_R30, Q_GE, Q_BX, fun h0_ => absurd ((hoff 33 (by kernel_rfl)).symm.trans h0_) (by decide), fun h0_ => absurd ((hoff 31 (by kernel_rfl)).symm.trans h0_) (by decide), Q_X32_⟩
   refine steps_cons ?_ ?_
   ·rintro b a w' ⟨κ, z4, z11, z12, z18, z19, z25, z26, z29, z30, gB, m31_, m32_, ha, Q_BW, Q_L4, Q_R11, Q_L12, Q_R18, Q_L19, Q_R25, Q_L26, Q_R29, Q_R30, Q_GE, Q_BX, Q_BY, Q_X31_, Q_X32_⟩ hb_ hon hoff
    refine ⟨_, rfl, fun K hK => ?_⟩
    have e22 : a.tmps[22]? = some (.slice A1 s.ms.length c1) := by rw [ha]; exact putSel_on (e := (14, 22, .slice A1 s.ms.length c1)) 6 rfl rfl (hon 14 (by kernel_rfl)) rfl
    have e23 : a.tmps[23]? = some (.int .i64 p) := by rw [ha]; exact (putSel_off rfl).trans rfl
    have e24 : a.tmps[24]? = some (.int .i64 q) := by rw [ha]; exact (putSel_off rfl).trans rfl
    replace ha := Aside0.mk ha
    have BW := Aside0.mk Q_BW
    have hm_ := hmm
    refine value_ (w1 := w') (v := .slice Bm (q - p) dm) (by rfl) rfl ?_ ?_
    ·go_simp
     (try simp only [i64_w])
     try rfl
    refine hK.out _ _ ⟨κ, z4, z11, z12, z18, z19, z25, z26, z29, z30, gB, m31_, m32_, (by rw [ha.out]; exact putSel_upk 7 hb_ rfl rfl rfl), Q_BW, Q_L4, Q_R11, Q_L12, fun h0_ => absurd ((hoff 18 (by kernel_rfl)).symm.trans h0_) (by decide), Q_L19, fun h0_ => absurd ((hoff 25 (by kernel_rfl)).symm.trans h0_) (by decide), Q_L26, fun h0_ => absurd ((hoff 29 (by kernel_rfl)).symm.trans h0_) (by decide), Q_R30, Q_GE, Q_BX, fun h0_ => absurd ((hoff 33 (by kernel_rfl)).symm.trans h0_) (by decide), fun h0_ => absurd ((hoff 31 (by kernel_rfl)).symm.trans h0_) (by decide), Q_X32_⟩
   refine steps_cons ?_ ?_
   ·rintro b a w' ⟨κ, z4, z11, z12, z18, z19, z25, z26, z29, z30, gB, m31_, m32_, ha, Q_BW, Q_L4, Q_R11, Q_L12, Q_R18, Q_L19, Q_R25, Q_L26, Q_R29, Q_R30, Q_GE, Q_BX, Q_BY, Q_X31_, Q_X32_⟩ hb_ hon hoff
    refine ⟨_, rfl, fun K hK => ?_⟩
    have e20 : a.tmps[20]? = some (z12) := by rw [ha]; exact putSel_on (e := (12, 20, z12)) 5 rfl rfl (hon 12 (by kernel_rfl)) rfl
    have e25 : a.tmps[25]? = some (.slice Bm (q - p) dm) := by rw [ha]; exact putSel_on (e := (17, 25, .slice Bm (q - p) dm)) 7 rfl rfl (hon 17 (by kernel_rfl)) rfl
    replace ha := Aside0.mk ha
    have BW := Aside0.mk Q_BW
    have R11 := Aside0.mk (Q_R11 (hon 11 (by kernel_rfl)))
    have L12 := Aside0.mk (Q_L12 (hon 12 (by kernel_rfl)) hb_)
    have hsz : W1.heap.size ≤ w'.heap.size := BW.out.size
    have hle := Nat.le_refl W1.heap.size
    refine appendInts_step (w0 := W1) W1.heap.size (by rfl) (.tmp 20) (.tmp 25) rfl z12 [] ((s.ms.take q).drop p) Bm (q - p) dm (by simp only [Act.eval, Array.getD_eq_getD_getElem?, Option.getD_some, e20]) (by simp only [Act.eval, Array.getD_eq_getD_getElem?, Option.getD_some, e25]) ⟨L12.out.o.out⟩ (hrm _ ((r1.to b0').to BW.out)) BW.out.out hsz (by have := hs.n; have := hs.bd; simp; omega) ?_
    intro v1 w8 ho8 hB8 hg8 ha8
    have ho9 : FO w8 W1.heap.size 3 1 v1 (q - p) ((s.ms.take q).drop p) := by simpa [hln_18] using (show FO w8 W1.heap.size 3 1 v1 _ _ from ⟨ho8.out⟩)
    refine hK.out _ _ ⟨(paint κ w'.heap.size 1), z4, z11, z12, v1, z19, z25, z26, z29, z30, gB, m31_, m32_, (by rw [ha.out]; exact putSel_upk 8 hb_ rfl rfl rfl), L12.out.bw hg8 BW.out hle, fun _ h1_ => absurd ((hon 11 (by kernel_rfl)).symm.trans h1_) (by decide), fun _ => R11.out.grown L12.out (by decide) hg8 1, fun _ h1_ => absurd ((up_self b 18).symm.trans h1_) (by decide), fun _ => L12.out.app ho9 ha8, fun h0_ h1_ => (Q_L19 h0_ h1_).grown L12.out (by decide) hg8 1, fun h0_ => absurd ((hoff 25 (by kernel_rfl)).symm.trans h0_) (by decide), fun h0_ h1_ => (Q_L26 h0_ h1_).grown L12.out (by decide) hg8 1, fun h0_ => absurd ((hoff 29 (by kernel_rfl)).symm.trans h0_) (by decide), fun h0_ => (Q_R30 h0_).grown L12.out (by decide) hg8 1, fun h0_ => (Q_GE h0_), fun h0_ h1_ => blk_grown (Q_BX h0_ h1_) hg8 (own_ne L12.out.o.out (Q_BX h0_ h1_) (by decide)), fun h0_ => absurd ((hoff 33 (by kernel_rfl)).symm.trans h0_) (by decide), fun h0_ => absurd ((hoff 31 (by kernel_rfl)).symm.trans h0_) (by decide), Q_X32_⟩
   refine steps_cons ?_ ?_
   ·rintro b a w' ⟨κ, z4, z11, z12, z18, z19, z25, z26, z29, z30, gB, m31_, m32_, ha, Q_BW, Q_L4, Q_R11, Q_L12, Q_R18, Q_L19, Q_R25, Q_L26, Q_R29, Q_R30, Q_GE, Q_BX, Q_BY, Q_X31_, Q_X32_⟩ hb_ hon hoff
    refine ⟨_, rfl, fun K hK => ?_⟩
    replace ha := Aside0.mk ha
    have BW := Aside0.mk Q_BW
    have hsz : W1.heap.size ≤ w'.heap.size := BW.out.size
    refine lit0F_step (N := 27) (e := 3) (k := 1) ?hg ?hd ?hr ?_; (case hd => rfl); (case hg => rfl); (case hr => first | (go_simp; done) | (go_simp; rfl))
    intro XL yL wL oL bL
    refine hK.out _ _ ⟨(paint κ w'.heap.size 2), z4, z11, z12, z18, (.slice XL 0 yL), z25, z26, z29, z30, gB, m31_, m32_, (by rw [ha.out]; exact putSel_upk 9 hb_ rfl rfl rfl), BW.out.trans bL, fun h0_ h1_ => (Q_L4 h0_ h1_).to bL 2, fun h0_ => (Q_R11 h0_).to bL 2, fun h0_ h1_ => (Q_L12 h0_ h1_).to bL 2, fun h0_ => (Q_R18 h0_).to bL 2, fun _ _ => oL.cn hsz, fun h0_ => absurd ((hoff 25 (by kernel_rfl)).symm.trans h0_) (by decide), fun h0_ h1_ => (Q_L26 h0_ h1_).to bL 2, fun h0_ => absurd ((hoff 29 (by kernel_rfl)).symm.trans h0_) (by decide), fun h0_ => (Q_R30 h0_).to bL 2, fun h0_ => (Q_GE h0_), fun h0_ h1_ => (bL.out.block _ (blk_lt (Q_BX h0_ h1_))).trans (Q_BX h0_ h1_), fun h0_ => absurd ((hoff 33 (by kernel_rfl)).symm.trans h0_) (by decide), fun h0_ => absurd ((hoff 31 (by kernel_rfl)).symm.trans h0_) (by decide), Q_X32_⟩
   refine steps_cons ?_ ?_
   ·rintro b a w' ⟨κ, z4, z11, z12, z18, z19, z25, z26, z29, z30, gB, m31_, m32_, ha, Q_BW, Q_L4, Q_R11, Q_L12, Q_R18, Q_L19, Q_R25, Q_L26, Q_R29, Q_R30, Q_GE, Q_BX, Q_BY, Q_X31_, Q_X32_⟩ hb_ hon hoff
    refine ⟨_, rfl, fun K hK => ?_⟩
    have e28 : a.tmps[28]? = some (.pointer (some ⟨w.heap.size, 3, none⟩)) := by rw [ha]; exact (putSel_off rfl).trans rfl
    replace ha := Aside0.mk ha
    have BW := Aside0.mk Q_BW
    have hc_ := pw_cell_below BW.out.out g3
    refine value_ (w1 := w') (v := .slice A2 s.ts.length c2) (by rfl) rfl ?_ ?_
    ·go_simp
     (try simp only [i64_w])
     try rfl
    refine hK.out _ _ ⟨κ, z4, z11, z12, z18, z19, z25, z26, z29, z30, gB, m31_, m32_, (by rw [ha.out]; exact putSel_upk 10 hb_ rfl rfl rfl), Q_BW, Q_L4, Q_R11, Q_L12, Q_R18, Q_L19, fun h0_ => absurd ((hoff 25 (by kernel_rfl)).symm.trans h0_) (by decide), Q_L26, fun h0_ => absurd ((hoff 29 (by kernel_rfl)).symm.trans h0_) (by decide), Q_R30, Q_GE, Q_BX, fun h0_ => absurd ((hoff 33 (by kernel_rfl)).symm.trans h0_) (by decide), fun h0_ => absurd ((hoff 31 (by kernel_rfl)).symm.trans h0_) (by decide), Q_X32_⟩
   refine steps_cons ?_ ?_
   ·rintro b a w' ⟨κ, z4, z11, z12, z18, z19, z25, z26, z29, z30, gB, m31_, m32_, ha, Q_BW, Q_L4, Q_R11, Q_L12, Q_R18, Q_L19, Q_R25, Q_L26, Q_R29, Q_R30, Q_GE, Q_BX, Q_BY, Q_X31_, Q_X32_⟩ hb_ hon hoff
    refine ⟨_, rfl, fun K hK => ?_⟩
    have e29 : a.tmps[29]? = some (.slice A2 s.ts.length c2) := by rw [ha]; exact putSel_on (e := (21, 29, .slice A2 s.ts.length c2)) 10 rfl rfl (hon 21 (by kernel_rfl)) rfl
    have e30 : a.tmps[30]? = some (.int .i64 p) := by rw [ha]; exact (putSel_off rfl).trans rfl
    have e31 : a.tmps[31]? = some (.int .i64 q) := by rw [ha]; exact (putSel_off rfl).trans rfl
    replace ha := Aside0.mk ha
    have BW := Aside0.mk Q_BW
    have hm_ := hmt
    refine value_ (w1 := w') (v := .slice Bt (q - p) dt) (by rfl) rfl ?_ ?_
    ·go_simp
     (try simp only [i64_w])
     try rfl
    refine hK.out _ _ ⟨κ, z4, z11, z12, z18, z19, z25, z26, z29, z30, gB, m31_, m32_, (by rw [ha.out]; exact putSel_upk 11 hb_ rfl rfl rfl), Q_BW, Q_L4, Q_R11, Q_L12, Q_R18, Q_L19, fun h0_ => absurd ((hoff 25 (by kernel_rfl)).symm.trans h0_) (by decide), Q_L26, fun h0_ => absurd ((hoff 29 (by kernel_rfl)).symm.trans h0_) (by decide), Q_R30, Q_GE, Q_BX, fun h0_ => absurd ((hoff 33 (by kernel_rfl)).symm.trans h0_) (by decide), fun h0_ => absurd ((hoff 31 (by kernel_rfl)).symm.trans h0_) (by decide), Q_X32_⟩
   refine steps_cons ?_ ?_
   ·rintro b a w' ⟨κ, z4, z11, z12, z18, z19, z25, z26, z29, z30, gB, m31_, m32_, ha, Q_BW, Q_L4, Q_R11, Q_L12, Q_R18, Q_L19, Q_R25, Q_L26, Q_R29, Q_R30, Q_GE, Q_BX, Q_BY, Q_X31_, Q_X32_⟩ hb_ hon hoff
    refine ⟨_, rfl, fun K hK => ?_⟩
    have e27 : a.tmps[27]? = some (z19) := by rw [ha]; exact putSel_on (e := (19, 27, z19)) 9 rfl rfl (hon 19 (by kernel_rfl)) rfl
    have e32 : a.tmps[32]? = some (.slice Bt (q - p) dt) := by rw [ha]; exact putSel_on (e := (24, 32, .slice Bt (q - p) dt)) 11 rfl rfl (hon 24 (by kernel_rfl)) rfl
    replace ha := Aside0.mk ha
    have BW := Aside0.mk Q_BW
    have R11 := Aside0.mk (Q_R11 (hon 11 (by kernel_rfl)))
    have R18 := Aside0.mk (Q_R18 (hon 18 (by kernel_rfl)))
    have L19 := Aside0.mk (Q_L19 (hon 19 (by kernel_rfl)) hb_)
    have hsz : W1.heap.size ≤ w'.heap.size := BW.out.size
    have hle := Nat.le_refl W1.heap.size
    refine appendInts_step (w0 := W1) W1.heap.size (by rfl) (.tmp 27) (.tmp 32) rfl z19 [] ((s.ts.take q).drop p) Bt (q - p) dt (by simp only [Act.eval, Array.getD_eq_getD_getElem?, Option.getD_some, e27]) (by simp only [Act.eval, Array.getD_eq_getD_getElem?, Option.getD_some, e32]) ⟨L19.out.o.out⟩ (hrt _ ((r2.to b0').to BW.out)) BW.out.out hsz (by have := hs.n; have := hs.bd; simp; omega) ?_
    intro v1 w8 ho8 hB8 hg8 ha8
    have ho9 : FO w8 W1.heap.size 3 1 v1 (q - p) ((s.ts.take q).drop p) := by simpa [hln_25] using (show FO w8 W1.heap.size 3 1 v1 _ _ from ⟨ho8.out⟩)
    refine hK.out _ _ ⟨(paint κ w'.heap.size 2), z4, z11, z12, z18, z19, v1, z26, z29, z30, gB, m31_, m32_, (by rw [ha.out]; exact putSel_upk 12 hb_ rfl rfl rfl), L19.out.bw hg8 BW.out hle, fun _ h1_ => absurd ((hon 11 (by kernel_rfl)).symm.trans h1_) (by decide), fun _ => R11.out.grown L19.out (by decide) hg8 2, fun _ h1_ => absurd ((hon 18 (by kernel_rfl)).symm.trans h1_) (by decide), fun _ => R18.out.grown L19.out (by decide) hg8 2, fun _ h1_ => absurd ((up_self b 25).symm.trans h1_) (by decide), fun _ => L19.out.app ho9 ha8, fun h0_ h1_ => (Q_L26 h0_ h1_).grown L19.out (by decide) hg8 2, fun h0_ => absurd ((hoff 29 (by kernel_rfl)).symm.trans h0_) (by decide), fun h0_ => (Q_R30 h0_).grown L19.out (by decide) hg8 2, fun h0_ => (Q_GE h0_), fun h0_ h1_ => blk_grown (Q_BX h0_ h1_) hg8 (own_ne L19.out.o.out (Q_BX h0_ h1_) (by decide)), fun h0_ => absurd ((hoff 33 (by kernel_rfl)).symm.trans h0_) (by decide), fun h0_ => absurd ((hoff 31 (by kernel_rfl)).symm.trans h0_) (by decide), Q_X32_⟩
   refine steps_cons ?_ ?_
   ·rintro b a w' ⟨κ, z4, z11, z12, z18, z19, z25, z26, z29, z30, gB, m31_, m32_, ha, Q_BW, Q_L4, Q_R11, Q_L12, Q_R18, Q_L19, Q_R25, Q_L26, Q_R29, Q_R30, Q_GE, Q_BX, Q_BY, Q_X31_, Q_X32_⟩ hb_ hon hoff
    refine ⟨_, rfl, fun K hK => ?_⟩
    replace ha := Aside0.mk ha
    have BW := Aside0.mk Q_BW
    have hsz : W1.heap.size ≤ w'.heap.size := BW.out.size
    refine lit0F_step (N := 34) (e := 3) (k := 1) ?hg ?hd ?hr ?_; (case hd => rfl); (case hg => rfl); (case hr => first | (go_simp; done) | (go_simp; rfl))
    intro XL yL wL oL bL
    refine hK.out _ _ ⟨(paint κ w'.heap.size 3), z4, z11, z12, z18, z19, z25, (.slice XL 0 yL), z29, z30, gB, m31_, m32_, (by rw [ha.out]; exact putSel_upk 13 hb_ rfl rfl rfl), BW.out.trans bL, fun h0_ h1_ => (Q_L4 h0_ h1_).to bL 3, fun h0_ => (Q_R11 h0_).to bL 3, fun h0_ h1_ => (Q_L12 h0_ h1_).to bL 3, fun h0_ => (Q_R18 h0_).to bL 3, fun h0_ h1_ => (Q_L19 h0_ h1_).to bL 3, fun h0_ => (Q_R25 h0_).to bL 3, fun _ _ => oL.cn hsz, fun h0_ => absurd ((hoff 29 (by kernel_rfl)).symm.trans h0_) (by decide), fun h0_ => (Q_R30 h0_).to bL 3, fun h0_ => (Q_GE h0_), fun h0_ h1_ => (bL.out.block _ (blk_lt (Q_BX h0_ h1_))).trans (Q_BX h0_ h1_), fun h0_ => absurd ((hoff 33 (by kernel_rfl)).symm.trans h0_) (by decide), fun h0_ => absurd ((hoff 31 (by kernel_rfl)).symm.trans h0_) (by decide), Q_X32_⟩
   refine steps_cons ?_ ?_
   ·rintro b a w' ⟨κ, z4, z11, z12, z18, z19, z25, z26, z29, z30, gB, m31_, m32_, ha, Q_BW, Q_L4, Q_R11, Q_L12, Q_R18, Q_L19, Q_R25, Q_L26, Q_R29, Q_R30, Q_GE, Q_BX, Q_BY, Q_X31_, Q_X32_⟩ hb_ hon hoff
    refine ⟨_, rfl, fun K hK => ?_⟩
    have e35 : a.tmps[35]? = some (.pointer (some ⟨w.heap.size, 4, none⟩)) := by rw [ha]; exact (putSel_off rfl).trans rfl
    replace ha := Aside0.mk ha
    have BW := Aside0.mk Q_BW
    have hc_ := pw_cell_below BW.out.out g4
    refine value_ (w1 := w') (v := .slice A3 s.bd.length c3) (by rfl) rfl ?_ ?_
    ·go_simp
     (try simp only [i64_w])
     try rfl
    refine hK.out _ _ ⟨κ, z4, z11, z12, z18, z19, z25, z26, z29, z30, gB, m31_, m32_, (by rw [ha.out]; exact putSel_upk 14 hb_ rfl rfl rfl), Q_BW, Q_L4, Q_R11, Q_L12, Q_R18, Q_L19, Q_R25, Q_L26, fun h0_ => absurd ((hoff 29 (by kernel_rfl)).symm.trans h0_) (by decide), Q_R30, Q_GE, Q_BX, fun h0_ => absurd ((hoff 33 (by kernel_rfl)).symm.trans h0_) (by decide), fun h0_ => absurd ((hoff 31 (by kernel_rfl)).symm.trans h0_) (by decide), Q_X32_⟩
   refine steps_cons ?_ ?_
   ·rintro b a w' ⟨κ, z4, z11, z12, z18, z19, z25, z26, z29, z30, gB, m31_, m32_, ha, Q_BW, Q_L4, Q_R11, Q_L12, Q_R18, Q_L19, Q_R25, Q_L26, Q_R29, Q_R30, Q_GE, Q_BX, Q_BY, Q_X31_, Q_X32_⟩ hb_ hon hoff
    refine ⟨_, rfl, fun K hK => ?_⟩
    have e34 : a.tmps[34]? = some (z26) := by rw [ha]; exact putSel_on (e := (26, 34, z26)) 13 rfl rfl (hon 26 (by kernel_rfl)) rfl
    have e36 : a.tmps[36]? = some (.slice A3 s.bd.length c3) := by rw [ha]; exact putSel_on (e := (28, 36, .slice A3 s.bd.length c3)) 14 rfl rfl (hon 28 (by kernel_rfl)) rfl
    replace ha := Aside0.mk ha
    have BW := Aside0.mk Q_BW
    have R11 := Aside0.mk (Q_R11 (hon 11 (by kernel_rfl)))
    have R18 := Aside0.mk (Q_R18 (hon 18 (by kernel_rfl)))
    have R25 := Aside0.mk (Q_R25 (hon 25 (by kernel_rfl)))
    have L26 := Aside0.mk (Q_L26 (hon 26 (by kernel_rfl)) hb_)
    have hsz : W1.heap.size ≤ w'.heap.size := BW.out.size
    have hle := Nat.le_refl W1.heap.size
    refine appendInts_step (w0 := W1) W1.heap.size (by rfl) (.tmp 34) (.tmp 36) rfl z26 [] s.bd A3 s.bd.length c3 (by simp only [Act.eval, Array.getD_eq_getD_getElem?, Option.getD_some, e34]) (by simp only [Act.eval, Array.getD_eq_getD_getElem?, Option.getD_some, e36]) ⟨L26.out.o.out⟩ ((r3.to b0').to BW.out) BW.out.out hsz (by have := hs.n; have := hs.bd; simp; omega) ?_
    intro v1 w8 ho8 hB8 hg8 ha8
    have ho9 : FO w8 W1.heap.size 3 1 v1 s.bd.length s.bd := by simpa [hln_29] using (show FO w8 W1.heap.size 3 1 v1 _ _ from ⟨ho8.out⟩)
    refine hK.out _ _ ⟨(paint κ w'.heap.size 3), z4, z11, z12, z18, z19, z25, z26, v1, z30, gB, m31_, m32_, (by rw [ha.out]; exact putSel_upk 15 hb_ rfl rfl rfl), L26.out.bw hg8 BW.out hle, fun _ h1_ => absurd ((hon 11 (by kernel_rfl)).symm.trans h1_) (by decide), fun _ => R11.out.grown L26.out (by decide) hg8 3, fun _ h1_ => absurd ((hon 18 (by kernel_rfl)).symm.trans h1_) (by decide), fun _ => R18.out.grown L26.out (by decide) hg8 3, fun _ h1_ => absurd ((hon 25 (by kernel_rfl)).symm.trans h1_) (by decide), fun _ => R25.out.grown L26.out (by decide) hg8 3, fun _ h1_ => absurd ((up_self b 29).symm.trans h1_) (by decide), fun _ => L26.out.app ho9 ha8, fun h0_ => (Q_R30 h0_).grown L26.out (by decide) hg8 3, fun h0_ => (Q_GE h0_), fun h0_ h1_ => blk_grown (Q_BX h0_ h1_) hg8 (own_ne L26.out.o.out (Q_BX h0_ h1_) (by decide)), fun h0_ => absurd ((hoff 33 (by kernel_rfl)).symm.trans h0_) (by decide), fun h0_ => absurd ((hoff 31 (by kernel_rfl)).symm.trans h0_) (by decide), Q_X32_⟩
   refine steps_cons ?_ ?_
   ·rintro b a w' ⟨κ, z4, z11, z12, z18, z19, z25, z26, z29, z30, gB, m31_, m32_, ha, Q_BW, Q_L4, Q_R11, Q_L12, Q_R18, Q_L19, Q_R25, Q_L26, Q_R29, Q_R30, Q_GE, Q_BX, Q_BY, Q_X31_, Q_X32_⟩ hb_ hon hoff
    refine ⟨_, rfl, fun K hK => ?_⟩
    replace ha := Aside0.mk ha
    have BW := Aside0.mk Q_BW
    have hsz : W1.heap.size ≤ w'.heap.size := BW.out.size
    have hk8 := HK8.out
    refine mk8_step (N := 38) ?hg ?hd ?hr ?_; (case hd => rfl); (case hg => rfl); (case hr => first | (go_simp; done) | (go_simp; rfl))
    intro XL yL wL oL bL
    refine hK.out _ _ ⟨(paint κ w'.heap.size 4), z4, z11, z12, z18, z19, z25, z26, z29, (.slice XL 8 yL), gB, m31_, m32_, (by rw [ha.out]; exact putSel_upk 16 hb_ rfl rfl rfl), BW.out.trans bL, fun h0_ h1_ => (Q_L4 h0_ h1_).to bL 4, fun h0_ => (Q_R11 h0_).to bL 4, fun h0_ h1_ => (Q_L12 h0_ h1_).to bL 4, fun h0_ => (Q_R18 h0_).to bL 4, fun h0_ h1_ => (Q_L19 h0_ h1_).to bL 4, fun h0_ => (Q_R25 h0_).to bL 4, fun h0_ h1_ => (Q_L26 h0_ h1_).to bL 4, fun h0_ => (Q_R29 h0_).to bL 4, fun _ => oL.cn hsz, fun h0_ => (Q_GE h0_), fun h0_ h1_ => (bL.out.block _ (blk_lt (Q_BX h0_ h1_))).trans (Q_BX h0_ h1_), fun h0_ => absurd ((hoff 33 (by kernel_rfl)).symm.trans h0_) (by decide), fun h0_ => absurd ((hoff 31 (by kernel_rfl)).symm.trans h0_) (by decide), Q_X32_⟩
   refine steps_cons ?_ ?_
   ·rintro b a w' ⟨κ, z4, z11, z12, z18, z19, z25, z26, z29, z30, gB, m31_, m32_, ha, Q_BW, Q_L4, Q_R11, Q_L12, Q_R18, Q_L19, Q_R25, Q_L26, Q_R29, Q_R30, Q_GE, Q_BX, Q_BY, Q_X31_, Q_X32_⟩ hb_ hon hoff
    refine ⟨_, rfl, fun K hK => ?_⟩
    have e10 : a.tmps[10]? = some (.int .i64 s.ro) := by rw [ha]; exact putSel_on (e := (2, 10, .int .i64 s.ro)) 0 rfl rfl (hon 2 (by kernel_rfl)) rfl
    have e11 : a.tmps[11]? = some (.int .i64 p) := by rw [ha]; exact (putSel_off rfl).trans rfl
    have e19 : a.tmps[19]? = some (z11) := by rw [ha]; exact putSel_on (e := (11, 19, z11)) 4 rfl rfl (hon 11 (by kernel_rfl)) rfl
    have e26 : a.tmps[26]? = some (z18) := by rw [ha]; exact putSel_on (e := (18, 26, z18)) 8 rfl rfl (hon 18 (by kernel_rfl)) rfl
    have e33 : a.tmps[33]? = some (z25) := by rw [ha]; exact putSel_on (e := (25, 33, z25)) 12 rfl rfl (hon 25 (by kernel_rfl)) rfl
    have e37 : a.tmps[37]? = some (z29) := by rw [ha]; exact putSel_on (e := (29, 37, z29)) 15 rfl rfl (hon 29 (by kernel_rfl)) rfl
    have e38 : a.tmps[38]? = some (z30) := by rw [ha]; exact putSel_on (e := (30, 38, z30)) 16 rfl rfl (hon 30 (by kernel_rfl)) rfl
    replace ha := Aside0.mk ha
    have BW := Aside0.mk Q_BW
    have R11 := Aside0.mk (Q_R11 (hon 11 (by kernel_rfl)))
    have R18 := Aside0.mk (Q_R18 (hon 18 (by kernel_rfl)))
    have R25 := Aside0.mk (Q_R25 (hon 25 (by kernel_rfl)))
    have R29 := Aside0.mk (Q_R29 (hon 29 (by kernel_rfl)))
    have R30 := Aside0.mk (Q_R30 (hon 30 (by kernel_rfl)))
    obtain ⟨X11_, y11_, e_, _, _⟩ := R11.out.o.reads
    subst e_
    obtain ⟨X18_, y18_, e_, _, _⟩ := R18.out.o.reads
    subst e_
    obtain ⟨X25_, y25_, e_, _, _⟩ := R25.out.o.reads
    subst e_
    obtain ⟨X29_, y29_, e_, _, _⟩ := R29.out.o.reads
    subst e_
    obtain ⟨X30_, y30_, e_, _, _⟩ := R30.out.o.reads
    subst e_
    refine value_ (w1 := w') (v := .agg #[.int .i64 s.ro, .int .i64 p, (.slice X11_ (q - p) y11_), (.slice X18_ (q - p) y18_), (.slice X25_ (q - p) y25_), (.slice X29_ s.bd.length y29_), (.slice X30_ 8 y30_)]) (by rfl) rfl ?_ ?_
    ·go_simp
     (try simp only [i64_w])
     try rfl
    refine hK.out _ _ ⟨κ, z4, (.slice X11_ (q - p) y11_), z12, (.slice X18_ (q - p) y18_), z19, (.slice X25_ (q - p) y25_), z26, (.slice X29_ s.bd.length y29_), (.slice X30_ 8 y30_), gB, (.agg #[.int .i64 s.ro, .int .i64 p, (.slice X11_ (q - p) y11_), (.slice X18_ (q - p) y18_), (.slice X25_ (q - p) y25_), (.slice X29_ s.bd.length y29_), (.slice X30_ 8 y30_)]), m32_, (by rw [ha.out]; exact putSel_upk 17 hb_ rfl rfl rfl), Q_BW, fun _ h1_ => absurd ((hon 11 (by kernel_rfl)).symm.trans h1_) (by decide), Q_R11, fun _ h1_ => absurd ((hon 18 (by kernel_rfl)).symm.trans h1_) (by decide), Q_R18, fun _ h1_ => absurd ((hon 25 (by kernel_rfl)).symm.trans h1_) (by decide), Q_R25, fun _ h1_ => absurd ((hon 29 (by kernel_rfl)).symm.trans h1_) (by decide), Q_R29, Q_R30, Q_GE, Q_BX, fun h0_ => absurd ((hoff 33 (by kernel_rfl)).symm.trans h0_) (by decide), fun _ => rfl, Q_X32_⟩
   refine steps_cons ?_ ?_
   ·rintro b a w' ⟨κ, z4, z11, z12, z18, z19, z25, z26, z29, z30, gB, m31_, m32_, ha, Q_BW, Q_L4, Q_R11, Q_L12, Q_R18, Q_L19, Q_R25, Q_L26, Q_R29, Q_R30, Q_GE, Q_BX, Q_BY, Q_X31_, Q_X32_⟩ hb_ hon hoff
    refine ⟨_, rfl, fun K hK => ?_⟩
    replace ha := Aside0.mk ha
    have BW := Aside0.mk Q_BW
    refine box_step ?hg (N := 7) ?hd (cs := #[.int .i64 0, .int .i64 0, .slice none 0 0, .slice none 0 0, .slice none 0 0, .slice none 0 0, .slice none 0 0]) (t := 46) ?hr ?_; (case hd => rfl); (case hg => rfl); (case hr => first | (go_simp; done) | (go_simp; rfl))
    intro gN hgN wN hbox hb5
    refine hK.out _ _ ⟨(paint κ w'.heap.size 5), z4, z11, z12, z18, z19, z25, z26, z29, z30, gN, m31_, (.pointer (some ⟨gN, 0, none⟩)), (by rw [ha.out]; exact putSel_upk 18 hb_ rfl rfl rfl), BW.out.trans (⟨hb5⟩ : Bw w' wN), fun h0_ h1_ => (Q_L4 h0_ h1_).to (⟨hb5⟩ : Bw w' wN) 5, fun h0_ => (Q_R11 h0_).to (⟨hb5⟩ : Bw w' wN) 5, fun h0_ h1_ => (Q_L12 h0_ h1_).to (⟨hb5⟩ : Bw w' wN) 5, fun h0_ => (Q_R18 h0_).to (⟨hb5⟩ : Bw w' wN) 5, fun h0_ h1_ => (Q_L19 h0_ h1_).to (⟨hb5⟩ : Bw w' wN) 5, fun h0_ => (Q_R25 h0_).to (⟨hb5⟩ : Bw w' wN) 5, fun h0_ h1_ => (Q_L26 h0_ h1_).to (⟨hb5⟩ : Bw w' wN) 5, fun h0_ => (Q_R29 h0_).to (⟨hb5⟩ : Bw w' wN) 5, fun h0_ => (Q_R30 h0_).to (⟨hb5⟩ : Bw w' wN) 5, fun _ => by rw [hgN]; exact BW.out.size, fun _ _ => hbox, fun h0_ => absurd ((hoff 33 (by kernel_rfl)).symm.trans h0_) (by decide), Q_X31_, fun _ => rfl⟩
   refine steps_cons ?_ ?_
   ·rintro b a w' ⟨κ, z4, z11, z12, z18, z19, z25, z26, z29, z30, gB, m31_, m32_, ha, Q_BW, Q_L4, Q_R11, Q_L12, Q_R18, Q_L19, Q_R25, Q_L26, Q_R29, Q_R30, Q_GE, Q_BX, Q_BY, Q_X31_, Q_X32_⟩ hb_ hon hoff
    refine ⟨_, rfl, fun K hK => ?_⟩
    have e7 : a.tmps[7]? = some (m32_) := by rw [ha]; exact putSel_on (e := (32, 7, m32_)) 18 rfl rfl (hon 32 (by kernel_rfl)) rfl
    rw [Q_X32_ (hon 32 (by kernel_rfl))] at e7
    have e39 : a.tmps[39]? = some (m31_) := by rw [ha]; exact putSel_on (e := (31, 39, m31_)) 17 rfl rfl (hon 31 (by kernel_rfl)) rfl
    rw [Q_X31_ (hon 31 (by kernel_rfl))] at e39
    replace ha := Aside0.mk ha
    have BW := Aside0.mk Q_BW
    have R11 := Aside0.mk (Q_R11 (hon 11 (by kernel_rfl)))
    have R18 := Aside0.mk (Q_R18 (hon 18 (by kernel_rfl)))
    have R25 := Aside0.mk (Q_R25 (hon 25 (by kernel_rfl)))
    have R29 := Aside0.mk (Q_R29 (hon 29 (by kernel_rfl)))
    have R30 := Aside0.mk (Q_R30 (hon 30 (by kernel_rfl)))
    have GE := Aside0.mk (Q_GE (hon 32 (by kernel_rfl)))
    have BX := Aside0.mk (Q_BX (hon 32 (by kernel_rfl)) hb_)
    obtain ⟨X11_, y11_, e_, _, _⟩ := R11.out.o.reads
    subst e_
    obtain ⟨X18_, y18_, e_, _, _⟩ := R18.out.o.reads
    subst e_
    obtain ⟨X25_, y25_, e_, _, _⟩ := R25.out.o.reads
    subst e_
    obtain ⟨X29_, y29_, e_, _, _⟩ := R29.out.o.reads
    subst e_
    obtain ⟨X30_, y30_, e_, _, _⟩ := R30.out.o.reads
    subst e_
    have hs0_ := (blk_cell BX.out 0).trans (show _ = some (Value.int .i64 0) from rfl)
    have hf0_ := blk_frozen BX.out 0
    have hs1_ := (blk_cell BX.out 1).trans (show _ = some (Value.int .i64 0) from rfl)
    have hf1_ := blk_frozen BX.out 1
    have hs2_ := (blk_cell BX.out 2).trans (show _ = some (Value.slice none 0 0) from rfl)
    have hf2_ := blk_frozen BX.out 2
    have hs3_ := (blk_cell BX.out 3).trans (show _ = some (Value.slice none 0 0) from rfl)
    have hf3_ := blk_frozen BX.out 3
    have hs4_ := (blk_cell BX.out 4).trans (show _ = some (Value.slice none 0 0) from rfl)
    have hf4_ := blk_frozen BX.out 4
    have hs5_ := (blk_cell BX.out 5).trans (show _ = some (Value.slice none 0 0) from rfl)
    have hf5_ := blk_frozen BX.out 5
    have hs6_ := (blk_cell BX.out 6).trans (show _ = some (Value.slice none 0 0) from rfl)
    have hf6_ := blk_frozen BX.out 6
    have hwi : Wi w' (w7 w' gB 0 (.int .i64 s.ro) (.int .i64 p) (.slice X11_ (q - p) y11_) (.slice X18_ (q - p) y18_) (.slice X25_ (q - p) y25_) (.slice X29_ s.bd.length y29_) (.slice X30_ 8 y30_)) gB (gB + 1) := w7_wi _ _ _ _ _ _ _ _ _ _
    have hwi2 := Aside0.mk hwi
    clear hwi
    refine skip_ (w1 := ?_) (by rfl) rfl ?_ ?_
    rotate_left
    ·go_simp
     rfl
    have hwi := hwi2.out
    refine hK.out _ _ ⟨κ, z4, (.slice X11_ (q - p) y11_), z12, (.slice X18_ (q - p) y18_), z19, (.slice X25_ (q - p) y25_), z26, (.slice X29_ s.bd.length y29_), (.slice X30_ 8 y30_), gB, m31_, m32_, (by rw [ha.out]; exact putSel_none (v := undef) rfl), BW.out.then_wi hwi GE.out, fun _ h1_ => absurd ((hon 11 (by kernel_rfl)).symm.trans h1_) (by decide), fun _ => R11.out.store BX.out (by decide) hwi, fun _ h1_ => absurd ((hon 18 (by kernel_rfl)).symm.trans h1_) (by decide), fun _ => R18.out.store BX.out (by decide) hwi, fun _ h1_ => absurd ((hon 25 (by kernel_rfl)).symm.trans h1_) (by decide), fun _ => R25.out.store BX.out (by decide) hwi, fun _ h1_ => absurd ((hon 29 (by kernel_rfl)).symm.trans h1_) (by decide), fun _ => R29.out.store BX.out (by decide) hwi, fun _ => R30.out.store BX.out (by decide) hwi, fun _ => GE.out, fun _ h1_ => absurd ((up_self b 33).symm.trans h1_) (by decide), fun _ => w7_blk0 BX.out, Q_X31_, Q_X32_⟩
   exact steps_nil
  rintro b a w' hall ⟨κ, z4, z11, z12, z18, z19, z25, z26, z29, z30, gB, m31_, m32_, ha, Q_BW, Q_L4, Q_R11, Q_L12, Q_R18, Q_L19, Q_R25, Q_L26, Q_R29, Q_R30, Q_GE, Q_BX, Q_BY, Q_X31_, Q_X32_⟩
  clear BW
  have hb2_ := hall 2 (by kernel_rfl)
  have hb4_ := hall 4 (by kernel_rfl)
  have hb7_ := hall 7 (by kernel_rfl)
  have hb10_ := hall 10 (by kernel_rfl)
  have hb11_ := hall 11 (by kernel_rfl)
  have hb12_ := hall 12 (by kernel_rfl)
  have hb14_ := hall 14 (by kernel_rfl)
  have hb17_ := hall 17 (by kernel_rfl)
  have hb18_ := hall 18 (by kernel_rfl)
  have hb19_ := hall 19 (by kernel_rfl)
  have hb21_ := hall 21 (by kernel_rfl)
  have hb24_ := hall 24 (by kernel_rfl)
  have hb25_ := hall 25 (by kernel_rfl)
  have hb26_ := hall 26 (by kernel_rfl)
  have hb28_ := hall 28 (by kernel_rfl)
  have hb29_ := hall 29 (by kernel_rfl)
  have hb30_ := hall 30 (by kernel_rfl)
  have hb31_ := hall 31 (by kernel_rfl)
  have hb32_ := hall 32 (by kernel_rfl)
  have hb33_ := hall 33 (by kernel_rfl)
  subst ha
  obtain rfl := Q_X31_ hb31_
  obtain rfl := Q_X32_ hb32_
  simp only [putSel, hb2_, hb4_, hb7_, hb10_, hb11_, hb12_, hb14_, hb17_, hb18_, hb19_, hb21_, hb24_, hb25_, hb26_, hb28_, hb29_, hb30_, hb31_, hb32_, hb33_, if_true, Act.put, List.setIfInBounds_toArray, List.set_cons_zero, List.set_cons_succ]
  have BW := Aside0.mk Q_BW
  clear Q_BW
  clear Q_L4
  have R11 := Aside0.mk (Q_R11 hb11_)
  clear Q_R11
  clear Q_L12
  have R18 := Aside0.mk (Q_R18 hb18_)
  clear Q_R18
  clear Q_L19
  have R25 := Aside0.mk (Q_R25 hb25_)
  clear Q_R25
  clear Q_L26
  have R29 := Aside0.mk (Q_R29 hb29_)
  clear Q_R29
  have R30 := Aside0.mk (Q_R30 hb30_)
  clear Q_R30
  have GE := Aside0.mk (Q_GE hb32_)
  clear Q_GE
  clear Q_BX
  have BY := Aside0.mk (Q_BY hb33_)
  clear Q_BY
  clear hall hb2_ hb4_ hb7_ hb10_ hb11_ hb12_ hb14_ hb17_ hb18_ hb19_ hb21_ hb24_ hb25_ hb26_ hb28_ hb29_ hb30_ hb31_ hb32_ hb33_
  go_wp2
  go_meet
  case rel => exact ⟨gB, κ, z11, z18, z25, z29, z30, rfl, GE.out, BY.out, R11.out, R18.out, R25.out, R29.out, R30.out, BW.out⟩
 case rest =>
  obtain ⟨G, κ, z11, z18, z25, z29, z30, rfl, hG, hk, R11, R18, R25, R29, R30, hB⟩ := hcut
  have hlq := hs.n
  go_upto_if 42 with fail
  go_cut [] from 42 to 51 (fun wz => ∃ zg : Value, PVw wz (w.heap.size + 2) s p q z11 z18 z25 z29 zg ∧ wz.heap[G]? = some (.cells #[.int .i64 s.ro, .int .i64 p, z11, z18, z25, z29, zg] 46 (0, 0)) ∧ wz.heap[w.heap.size + 1]? = some (.cells #[.int .i64 0, .int .i64 0, .slice none 0 0, .slice none 0 0, .slice none 0 0, .slice none 0 0, .slice none 0 0] 46 (0, 0)) ∧ Bw W1 wz)
  case first =>
   by_cases hlt : p < q
   case pos =>
     have t1 : decide ((p : Int) < (q : Int)) = true := decide_eq_true (by omega)
     have e1 : wrap64 ((p : Int) - 1) = (p : Int) - 1 := w64 (by omega) (by omega)
     have e2 : IntKind.i64.wrap ((p : Int) - 1) = (p : Int) - 1 := i64w (by omega) (by omega)
     replace g0 := pw_cell_below hB.out g0
     replace g1 := pw_cell_below hB.out g1
     replace g2 := pw_cell_below hB.out g2
     replace g3 := pw_cell_below hB.out g3
     replace g4 := pw_cell_below hB.out g4
     go_wp2
     refine start_ (n := 10) (S := fun w' => w'.cell? ⟨w.heap.size, 0, none⟩ = some (.int .i64 s.ro) ∧ w'.cell? ⟨w.heap.size, 1, none⟩ = some (.slice A0 s.lv.length c0) ∧ w'.cell? ⟨w.heap.size, 2, none⟩ = some (.slice A1 s.ms.length c1) ∧ w'.cell? ⟨w.heap.size, 3, none⟩ = some (.slice A2 s.ts.length c2) ∧ w'.cell? ⟨w.heap.size, 4, none⟩ = some (.slice A3 s.bd.length c3)) (ds := [9]) #[false, false, false, false, false, false, false, false, false, false] (by kernel_rfl) rfl rfl ⟨g0, g1, g2, g3, g4⟩ (fun hHeld => ?_)
     refine tq_ (i := 0) (N := (some 43)) (v := ?_) (a' := ?_) rfl rfl (by kernel_rfl) (fun _ _ _ h => h) (Or.inl ⟨by rfl, ?_⟩) hHeld ?_ ?_
     rotate_left; (rintro w' ⟨s0, s1, s2, s3, s4⟩; go_simp; with_reducible rfl); rotate_left; (simp only [Act.put, s1_, s2_, s3_, i64_w, i32_w]; rfl)
     refine pq_ (i := 1) (N := (some 44)) (v := ?_) (a' := ?_) rfl rfl (by kernel_rfl) (fun _ _ _ h => h) (Or.inl ⟨by rfl, ?_⟩) ?_ ?_
     rotate_left; (intro w'; go_simp; with_reducible rfl); rotate_left; (simp only [Act.put, s1_, s2_, s3_, i64_w, i32_w]; rfl)
     refine pq_ (i := 2) (N := (some 45)) (v := ?_) (a' := ?_) rfl rfl (by kernel_rfl) (fun _ _ _ h => h) (Or.inl ⟨by rfl, ?_⟩) ?_ ?_
     rotate_left; (intro w'; go_simp; with_reducible rfl); rotate_left; (simp only [Act.put, s1_, s2_, s3_, i64_w, i32_w]; rfl)
     refine tq_ (i := 4) (N := (some 47)) (v := ?_) (a' := ?_) rfl rfl (by kernel_rfl) (fun _ _ _ h => h) (Or.inl ⟨by rfl, ?_⟩) hHeld ?_ ?_
     rotate_left; (rintro w' ⟨s0, s1, s2, s3, s4⟩; go_simp; with_reducible rfl); rotate_left; (simp only [Act.put, s1_, s2_, s3_, i64_w, i32_w]; rfl)
     refine pq_ (i := 5) (N := (some 48)) (v := ?_) (a' := ?_) rfl rfl (by kernel_rfl) (fun _ _ _ h => h) (Or.inl ⟨by rfl, ?_⟩) ?_ ?_
     rotate_left; (intro w'; go_simp; with_reducible rfl); rotate_left; (simp only [Act.put, s1_, s2_, s3_, i64_w, i32_w]; rfl)
     have H_ := hHeld
     clear H_ hHeld
     refine one_ (i := 3) (N := (some 46)) #[true, true, true, true, true, true, false, false, false, false] rfl rfl (by kernel_rfl) (by decide) (fun K hK => ?_)
     refine goes_ Try.func48 (by kernel_rfl) rfl #[.agg #[.int .i64 s.ro, .slice A0 s.lv.length c0, .slice A1 s.ms.length c1, .slice A2 s.ts.length c2, .slice A3 s.bd.length c3], .int .i64 ((p : Int) - 1)] (by rfl) rfl rfl (by (try simp only [List.map_toArray, List.map_cons, List.map_nil]); first | done | rfl) ?_
     refine (spec_l24Ghost _ s ((p : Int) - 1) _ (hx0.r.to ((b0'.trans hB).trans (Bw.drawn ⟨⟨1, rfl⟩⟩))) hs (by have := hs.n; omega)).mono ?_
     rintro e wa ⟨va, rfl, oa, ba⟩
     refine ⟨_, rfl, ?_⟩
     have bA := (Bw.drawn (a := wc) ⟨⟨1, rfl⟩⟩).trans ba
     refine hK.out _ _ ⟨pw_cell_below bA.out g0, pw_cell_below bA.out g1, pw_cell_below bA.out g2, pw_cell_below bA.out g3, pw_cell_below bA.out g4⟩ (fun _ => ?_)
     rename_i hJ_
     clear hJ_
     clear hK K; refine norm_ (a' := ?_) ?_ ?_; rotate_left; (show Act.put _ (some 46) _ = _; simp only [Act.put, s1_, s2_, s3_, i64_w, i32_w]; rfl)
     refine one_ (i := 6) (N := (some 49)) #[true, true, true, true, true, true, true, false, false, false] rfl rfl (by kernel_rfl) (by decide) (fun K hK => ?_)
     refine goes_ Try.func48 (by kernel_rfl) rfl #[.agg #[.int .i64 s.ro, .slice A0 s.lv.length c0, .slice A1 s.ms.length c1, .slice A2 s.ts.length c2, .slice A3 s.bd.length c3], .int .i64 q] (by rfl) rfl rfl (by (try simp only [List.map_toArray, List.map_cons, List.map_nil]); first | done | rfl) ?_
     refine (spec_l24Ghost _ s (q : Int) _ (hx0.r.to ((b0'.trans hB).trans bA)) hs (by have := hs.n; omega)).mono ?_
     rintro e wb ⟨vb_, rfl, ob, bb⟩
     refine ⟨_, rfl, ?_⟩
     obtain ⟨XB, yB, rfl, _, fb⟩ := FO.reads (t := 3) (k := 1) ⟨ob.out⟩
     have bB := bA.trans bb
     refine hK.out _ _ ⟨pw_cell_below bB.out g0, pw_cell_below bB.out g1, pw_cell_below bB.out g2, pw_cell_below bB.out g3, pw_cell_below bB.out g4⟩ (fun _ => ?_)
     rename_i hJ_
     clear hJ_
     clear hK K; refine norm_ (a' := ?_) ?_ ?_; rotate_left; (show Act.put _ (some 49) _ = _; simp only [Act.put, s1_, s2_, s3_, i64_w, i32_w]; rfl)
     refine one_ (i := 7) (N := (some 50)) #[true, true, true, true, true, true, true, true, false, false] rfl rfl (by kernel_rfl) (by decide) (fun K hK => ?_)
     have oa' := oa.to bb
     refine appendInts_step (w0 := wc) wc.heap.size (by rfl) (.tmp 46) (.tmp 49) rfl va (ghost s ((p : Int) - 1)) (ghost s (q : Int)) XB 4 yB rfl rfl (by rw [ghost_len]; exact OI.less0 oa' (by have := (Bw.drawn (a := wc) ⟨⟨1, rfl⟩⟩).size; omega)) fb.ri bB.out bB.size (by rw [ghost_len]; omega) ?_
     intro vg wd od hBd hgd had
     have hkB := (bB.out.block _ (blk_lt hk)).trans hk
     have hkD := blk_grown hkB hgd (own_ne oa'.out hkB (by decide))
     obtain ⟨XG, yG, rfl, _, _⟩ := FO.reads (t := 3) (k := 1) ⟨od.out⟩
     refine hK.out _ _ ⟨pw_cell_below hBd g0, pw_cell_below hBd g1, pw_cell_below hBd g2, pw_cell_below hBd g3, pw_cell_below hBd g4⟩ (fun _ => ?_)
     rename_i hJ_
     clear hJ_
     clear hK K; refine norm_ (a' := ?_) ?_ ?_; rotate_left; (show Act.put _ (some 50) _ = _; simp only [Act.put, s1_, s2_, s3_, i64_w, i32_w]; rfl)
     refine pq_ (i := 8) (N := (some 51)) (v := ?_) (a' := ?_) rfl rfl (by kernel_rfl) (fun _ _ _ h => h) (Or.inl ⟨by rfl, ?_⟩) ?_ ?_
     rotate_left; (intro w'; go_simp; with_reducible rfl); rotate_left; (simp only [Act.put, s1_, s2_, s3_, i64_w, i32_w]; rfl)
     refine last_ (i := 9) (N := none) #[true, true, true, true, true, true, true, true, true, true] rfl rfl (by kernel_rfl) (by decide) (fun K hK => ?_)
     have hs6 := (blk_cell hkD 6).trans (show _ = some z30 from rfl)
     have hf6 := blk_frozen hkD 6
     refine skip_ (w1 := ?_) (by rfl) rfl ?_ ?_
     rotate_left
     ·go_simp
      rfl
     refine hK.out _ _ ?_
     clear hK K
     refine done_ (by kernel_rfl) ?_
     have hBz0 := Bw.grown bB hgd (OI.less0 oa' (show wc.heap.size ≤ _ by have := (Bw.drawn (a := wc) ⟨⟨1, rfl⟩⟩).size; omega)) (Nat.le_refl _)
     have hn8 : (ghost s ((p : Int) - 1)).length + (ghost s (q : Int)).length = 8 := by rw [ghost_len, ghost_len]
     have hgh : ghosts s p q = ghost s ((p : Int) - 1) ++ ghost s (q : Int) := by rw [ghosts, if_pos hlt]
     simp only [List.length_append] at od
     rw [hn8] at od ⊢
     rw [← hgh] at od
     have og : FO wd wc.heap.size 3 1 (.slice XG 8 yG) 8 (ghosts s p q) := ⟨od.out⟩
     have hcs := hB.size
     have PV : PVw (wd.setCell ⟨G, 6, none⟩ (.slice XG 8 yG)) (w.heap.size + 2) s p q z11 z18 z25 z29 (.slice XG 8 yG) := ⟨((R11.o.to hBz0).blkT hkD (by decide)).less (by have := HWE.out; omega), ((R18.o.to hBz0).blkT hkD (by decide)).less (by have := HWE.out; omega), ((R25.o.to hBz0).blkT hkD (by decide)).less (by have := HWE.out; omega), ((R29.o.to hBz0).blkT hkD (by decide)).less (by have := HWE.out; omega), (og.blkT hkD (by decide)).less (by have := HWE.out; omega), R11.apart R18 (by decide), R11.apart R25 (by decide), R11.apart R29 (by decide), Apart.ofO R11.o og (Nat.le_refl _), R18.apart R25 (by decide), R18.apart R29 (by decide), Apart.ofO R18.o og (Nat.le_refl _), R25.apart R29 (by decide), Apart.ofO R25.o og (Nat.le_refl _), Apart.ofO R29.o og (Nat.le_refl _)⟩
     have hkz : (wd.setCell ⟨G, 6, none⟩ (.slice XG 8 yG)).heap[G]? = some (.cells #[.int .i64 s.ro, .int .i64 p, z11, z18, z25, z29, .slice XG 8 yG] 46 (0, 0)) := (blk_set hkD 6 (.slice XG 8 yG)).trans rfl
     have HRz := blk_far ((hBz0.out.block _ (blk_lt ((hB.out.block _ (blk_lt HR)).trans HR))).trans ((hB.out.block _ (blk_lt HR)).trans HR)) (p := ⟨G, 6, none⟩) (by show w.heap.size + 1 ≠ G; have := HWE.out; omega) (.slice XG 8 yG)
     have hBz : Bw W1 (wd.setCell ⟨G, 6, none⟩ (.slice XG 8 yG)) := bw_set (hB.trans hBz0) hG _ _
     go_wp2
     go_meet
     case rel => exact ⟨_, PV, hkz, HRz, hBz⟩
   case neg =>
     have t1 : decide ((p : Int) < (q : Int)) = false := decide_eq_false (by omega)
     have hgh : ghosts s p q = [0, 0, 0, 0, 0, 0, 0, 0] := by rw [ghosts, if_neg hlt]
     have hcs := hB.size
     have PV : PVw wc (w.heap.size + 2) s p q z11 z18 z25 z29 z30 := ⟨R11.o.less (by have := HWE.out; omega), R18.o.less (by have := HWE.out; omega), R25.o.less (by have := HWE.out; omega), R29.o.less (by have := HWE.out; omega), by rw [hgh]; exact R30.o.less (by have := HWE.out; omega), R11.apart R18 (by decide), R11.apart R25 (by decide), R11.apart R29 (by decide), R11.apart R30 (by decide), R18.apart R25 (by decide), R18.apart R29 (by decide), R18.apart R30 (by decide), R25.apart R29 (by decide), R25.apart R30 (by decide), R29.apart R30 (by decide)⟩
     have hkz := hk
     have HRz := (hB.out.block _ (blk_lt HR)).trans HR
     have hBz := hB
     go_wp2
     go_meet
     case rel => exact ⟨_, PV, hkz, HRz, hBz⟩
  case rest =>
   obtain ⟨zg, PV, hkz, HRz, hBz⟩ := hcut
   generalize hwz : wc = wz at *
   clear hwz g0 g1 g2 g3 g4
   obtain ⟨X0, y0, X1, y1, X2, y2, X3, y3, X4, y4, rfl, rfl, rfl, rfl, rfl⟩ := PV.forms
   clear R11 R18 R25 R29 R30 hk hB
   have hb0 := blk_cell hkz 0
   have hb1 := blk_cell hkz 1
   have hb2 := blk_cell hkz 2
   have hb3 := blk_cell hkz 3
   have hb4 := blk_cell hkz 4
   have hb5 := blk_cell hkz 5
   have hb6 := blk_cell hkz 6
   simp only [List.getElem?_toArray, List.getElem?_cons_zero, List.getElem?_cons_succ] at hb0 hb1 hb2 hb3 hb4 hb5 hb6
   have hr0 := blk_cell HRz 0
   have hr1 := blk_cell HRz 1
   have hr2 := blk_cell HRz 2
   have hr3 := blk_cell HRz 3
   have hr4 := blk_cell HRz 4
   have hr5 := blk_cell HRz 5
   have hr6 := blk_cell HRz 6
   have hf0 := blk_frozen HRz 0
   have hf1 := blk_frozen HRz 1
   have hf2 := blk_frozen HRz 2
   have hf3 := blk_frozen HRz 3
   have hf4 := blk_frozen HRz 4
   have hf5 := blk_frozen HRz 5
   have hf6 := blk_frozen HRz 6
   simp only [List.getElem?_toArray, List.getElem?_cons_zero, List.getElem?_cons_succ] at hr0 hr1 hr2 hr3 hr4 hr5 hr6
   have HPV := hid PV
   have HHR := hid HRz
   have HHB := hid hBz
   clear PV HRz hBz hkz
   go_wp2
   refine bodyPost_ret (results_cell_row rfl _ _ (w.heap.size + 1) 46 #[.int .i64 s.ro, .int .i64 p, .slice X0 (q - p) y0, .slice X1 (q - p) y1, .slice X2 (q - p) y2, .slice X3 s.bd.length y3, .slice X4 8 y4] (0, 0) _ rfl (w7_blk0 HHR.out) Try.underlying46 rfl (by kernel_rfl)) rfl ?_
   have hw7 := w7_wi wz (w.heap.size + 1) 0 (.int .i64 s.ro) (.int .i64 p) (.slice X0 (q - p) y0) (.slice X1 (q - p) y1) (.slice X2 (q - p) y2) (.slice X3 s.bd.length y3) (.slice X4 8 y4)
   exact ⟨_, _, _, _, _, rfl, HPV.out.wiB hw7 (Nat.le_refl _), Nat.le_trans (by have h2 := HHB.out.size; have := HWE.out; omega) hw7.size, (b0'.trans HHB.out).then_wi hw7 (by omega)⟩
end Go.Proofs.Ytgdkffddcbjmmaa.U
set_option linter.unusedVariables false
set_option linter.unusedSimpArgs false
namespace Go.Proofs.Ytgdkffddcbjmmaa.U
open Go.RowKit Go.Lib Go.Proofs.YtgdkffddcbjmmaaW.PrintWords
structure VG (w : World) (lo : Nat) (v : Value) (n : Nat) (X : Nat → Vf) (xs : List Value) (b e : Nat → Nat) : Prop where
 row : w.ownsRow lo 46 7 v n xs
 iv : ∀ i, i < n → lo ≤ b i ∧ b i ≤ e i ∧ e i ≤ w.heap.size
 off : ∀ i, i < n → ∀ g, v.ownBlock = some g → ¬ (b i ≤ g ∧ g < e i)
 sep : ∀ i j, i < j → j < n → e i ≤ b j
 el : ∀ i, i < n → ViO w (b i) (e i) (X i) (fun f => xs[i * 7 + f]?)
section
variable {w w' : World} {lo n : Nat} {v v1 : Value} {X : Nat → Vf} {xs ys : List Value} {b e : Nat → Nat}
theorem VG.nil (w : World) (lo : Nat) (g : Nat) (X : Nat → Vf) (h : w.ownsRow lo 46 7 v 0 []) : VG w lo v 0 X [] (fun _ => 0) (fun _ => 0) := ⟨h, fun i h => by omega, fun i h => by omega, fun i j _ h => by omega, fun i h => by omega⟩
theorem VG.to (h : VG w lo v n X xs b e) (k : Bw w w') : VG w' lo v n X xs b e := ⟨pw_own_below h.row k.out, fun i hi => by have := h.iv i hi; have := k.size; omega, h.off, h.sep, fun i hi => (h.el i hi).to k⟩
theorem ViO.gr {lo' hi' : Nat} {x : Vf} {c : Nat → Option Value} (h : ViO w lo' hi' x c) (hg : w.grownBy w' v.ownBlock) (hoff : ∀ g, v.ownBlock = some g → ¬ (lo' ≤ g ∧ g < hi')) (hle : lo' ≤ hi') : ViO w' lo' hi' x c := by
 cases hv : v.ownBlock with
 | none => exact h.wi (Wi.of_grown hg (lo := 0) (hi := 0) (fun q hq => by rw [hv] at hq; cases hq)) (by omega)
 | some g => exact h.wi (Wi.of_grown hg (lo := g) (hi := g + 1) (fun q hq => by rw [hv] at hq; obtain rfl := Option.some.inj hq; omega)) (by have := hoff g hv; omega)
theorem VG.app (h : VG w lo v n X xs b e) (o : w'.ownsRow lo 46 7 v1 (n + 1) (xs ++ ys)) (hg : w.grownBy w' v.ownBlock) (ha : v1.ownBlock = v.ownBlock ∨ ∃ q, v1.ownBlock = some q ∧ w.heap.size ≤ q) {bn en : Nat} (hb : lo ≤ bn ∧ bn ≤ en ∧ en ≤ w.heap.size) (hs : ∀ i, i < n → e i ≤ bn) (hoff : ∀ g, v.ownBlock = some g → ¬ (bn ≤ g ∧ g < en)) (hel : ViO w bn en (X n) (fun f => ys[f]?)) : VG w' lo v1 (n + 1) X (xs ++ ys) (fun i => if i < n then b i else bn) (fun i => if i < n then e i else en) := by
 have hl : xs.length = n * 7 := h.row.1
 have hsz := hg.size
 refine ⟨o, fun i hi => ?_, fun i hi g hv => ?_, fun i j hij hj => ?_, fun i hi => ?_⟩
 ·have := h.iv i
  by_cases hc : i < n
  ·simp only [if_pos hc]; have := h.iv i hc; omega
  ·simp only [if_neg hc]; omega
 ·have key : ∀ lo' hi' : Nat, hi' ≤ w.heap.size → (∀ g, v.ownBlock = some g → ¬ (lo' ≤ g ∧ g < hi')) → ¬ (lo' ≤ g ∧ g < hi') := fun lo' hi' h1 h2 => by
   rcases ha with e1 | ⟨q, e1, hq⟩
   ·exact h2 g (by rw [← e1, hv])
   ·rw [hv] at e1
    obtain rfl := Option.some.inj e1
    omega
  by_cases hc : i < n
  ·simp only [if_pos hc]; exact key _ _ (h.iv i hc).2.2 (h.off i hc)
  ·simp only [if_neg hc]; exact key _ _ hb.2.2 hoff
 ·by_cases hc : j < n
  ·simp only [if_pos hc, if_pos (show i < n by omega)]; exact h.sep i j hij hc
  ·simp only [if_neg hc, if_pos (show i < n by omega)]; exact hs i (by omega)
 ·by_cases hc : i < n
  ·simp only [if_pos hc]
   exact ((h.el i hc).gr hg (h.off i hc) (h.iv i hc).2.1).cells (fun f hf => by show (_ ++ _)[_]? = _; rw [List.getElem?_append_left (by omega)])
  ·obtain rfl : i = n := by omega
   simp only [if_neg hc]
   exact (hel.gr hg hoff hb.2.1).cells (fun f hf => by show (_ ++ _)[_]? = _; rw [List.getElem?_append_right (by omega), show i * 7 + f - xs.length = f by omega])
theorem VG.vwo (h : VG w lo v n X xs b e) {L : List Vf} (hL : L.length = n) (hX : ∀ i, i < n → gv L i = X i) : VwO w lo w.heap.size v n L := by
 rcases h.row.2 with ⟨rfl, rfl⟩ | ⟨g, cap, cur, rfl, hb, hh, hnc, hcm, hcs, ht⟩
 ·exact ⟨none, 0, rfl, hL, by omega, fun h0 => by omega⟩
 ·refine ⟨_, cap, rfl, hL, by have : maxLen = 9223372036854775807 := rfl; omega, fun h0 => ⟨g, cur, b, e, rfl, ⟨hh, ⟨hb, blk_lt hh⟩, ?_, fun i hi => ⟨(h.iv i hi).1, (h.iv i hi).2.1, (h.iv i hi).2.2, h.off i hi g rfl⟩, h.sep, fun i hi => ?_⟩⟩⟩
  ·rw [hcs]; exact Nat.mul_le_mul_right 7 hnc
  ·rw [hX i hi]
   refine (h.el i hi).cells (fun f hf => ?_)
   show cur[i * 7 + f]? = xs[i * 7 + f]?
   rw [← ht, List.getElem?_take, if_pos (by omega), Array.getElem?_toList]
end
end Go.Proofs.Ytgdkffddcbjmmaa.U
