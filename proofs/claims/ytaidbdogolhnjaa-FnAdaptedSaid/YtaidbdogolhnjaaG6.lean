
/- The part of a state, by the reference. -/
import Derived.Test.YtaidbdogolhnjaaG5
import Derived.Test.YtaidbdogolhnjaaWInvWords
set_option linter.unusedVariables false
set_option linter.unusedSimpArgs false
namespace Go.Proofs.Ytaidbdogolhnjaa.U
open Go.RowKit Go.Lib Go.Proofs.YtaidbdogolhnjaaW.PrintWords

open Go.Proofs.YtaidbdogolhnjaaW.PrintLast Go.Proofs.YtaidbdogolhnjaaW.PrintMore
def l24Part1T : Bool × List (List Nat × List Nat) := (true, [([], []), ([0], [0]), ([1], [1]), ([], []), ([], []), ([], []), ([5], [5]), ([6], [6]), ([], []), ([], []), ([7, 8, 9], [7, 8, 9]), ([4, 10], [4, 10]), ([], []), ([], []), ([13], [13]), ([], []), ([], []), ([14, 15, 16], [14, 15, 16]), ([12, 17, 11], [12, 17]), ([], []), ([], []), ([20], [20]), ([], []), ([], []), ([21, 22, 23], [21, 22, 23]), ([19, 24, 18], [19, 24]), ([], []), ([], []), ([27], [27]), ([26, 28, 25], [26, 28]), ([], []), ([2, 3, 11, 18, 25, 29, 30], [2, 3, 11, 18, 25, 29, 30]), ([], []), ([32, 31, 29, 0, 1, 2, 3, 4, 5, 6, 7, 8, 9, 10, 11, 12, 13, 14, 15, 16, 17, 18, 19, 20, 21, 22, 23, 24, 25, 26, 27, 28, 29, 30, 31, 32], [31, 32])])
def l24Part1B : List Nat := [0, 1, 3, 0, 0, 0, 32, 96, 0, 0, 992, 2032, 0, 0, 8192, 0, 0, 122880, 262128, 0, 0, 1048576, 0, 0, 15728640, 33554416, 0, 0, 134217728, 536870896, 0, 2147483647, 0, 8589934591]
theorem l24Part1bits : waitsOk l24Part1T.2 l24Part1B = true := by kernel_rfl
section
variable {P : Program} {ops : Array Oper} {o : Oper} {a : Act} {Q : Exit → Act → World → Prop} {Kc : Act → World → Prop}
theorem lit0F_step {W : World} (hw : Region.wanted o (yielded ops a.tmps) = true) {N : Tmp} (_hd : o.dst = some N) {e k : Nat}
    (hrun : (execOp a.eval o).run P W = .ok (.value (.slice (some ⟨W.heap.size, 0, none⟩) 0 0)) (W.alloc (.cells #[] e)))
    (h : ∀ X y w1, FO w1 W.heap.size e k (.slice X 0 y) 0 [] → Bw W w1 → Kc (a.put o.dst (.slice X 0 y)) w1) : if Region.wanted o (yielded ops a.tmps) = true then Oper.wp P o a W Kc Q else Kc (a.put o.dst undef) W :=
  event_step hw hrun (h _ _ _ ⟨World.ownsRow_lit (base := W.heap.size) (e := e) (size := k) W #[] 0 (Nat.le_refl _) (by simp [maxLen]) (by simp)⟩ ((Bw.refl W).alloc _))
theorem mk8_step {W : World} (hw : Region.wanted o (yielded ops a.tmps) = true) {N : Tmp} (_hd : o.dst = some N)
    (hrun : (execOp a.eval o).run P W = .ok (.value (.slice (some ⟨W.heap.size, 0, none⟩) 8 8)) (W.alloc (.cells #[.int .i64 0, .int .i64 0, .int .i64 0, .int .i64 0, .int .i64 0, .int .i64 0, .int .i64 0, .int .i64 0] 3)))
    (h : ∀ X y w1, FO w1 W.heap.size 3 1 (.slice X 8 y) 8 [0, 0, 0, 0, 0, 0, 0, 0] → Bw W w1 → Kc (a.put o.dst (.slice X 8 y)) w1) : if Region.wanted o (yielded ops a.tmps) = true then Oper.wp P o a W Kc Q else Kc (a.put o.dst undef) W :=
  event_step hw hrun (h _ _ _ ⟨own_lit W W.heap.size 3 .i64 [0, 0, 0, 0, 0, 0, 0, 0] (Nat.le_refl _) (by simp)⟩ ((Bw.refl W).alloc _))
end
/-- the numbers about the neighbours of a part -/
def ghosts (s : Sta) (p q : Nat) : List Int := if p < q then ghost s ((p : Int) - 1) ++ ghost s (q : Int) else [0, 0, 0, 0, 0, 0, 0, 0]
/-- the rows of a part's view -/
structure PVw (w : World) (lo : Nat) (s : Sta) (p q : Nat) (vl vm vt vb vg : Value) : Prop where
  l : FO w lo 58 3 vl (q - p) (idF ((s.lv.take q).drop p))
  m : FO w lo 3 1 vm (q - p) ((s.ms.take q).drop p)
  t : FO w lo 3 1 vt (q - p) ((s.ts.take q).drop p)
  b : FO w lo 3 1 vb s.bd.length s.bd
  g : FO w lo 3 1 vg 8 (ghosts s p q)
  ap : Ap5 vl vm vt vb vg
theorem ghosts_len (s : Sta) (p q : Nat) : (ghosts s p q).length = 8 := by
  unfold ghosts
  split
  · rw [List.length_append, ghost_len, ghost_len]
  · rfl
theorem FO.wiB {w w' : World} {base t k n lo hi : Nat} {v : Value} {F : List Int} (h : FO w base t k v n F) (c : Wi w w' lo hi) (hd : hi ≤ base) : FO w' base t k v n F := ⟨own_move h.out fun q hq => c.block q (own_lt h.out q hq) (fun e => by have := own_base h.out q hq; omega)⟩
theorem FO.blkT {w : World} {base t k n g i : Nat} {v u : Value} {F : List Int} {cs : Array Value} {e : TypeId} (h : FO w base t k v n F) (hg : w.heap[g]? = some (.cells cs e (0, 0))) (hne : t ≠ e) : FO (w.setCell ⟨g, i, none⟩ u) base t k v n F := ⟨own_move h.out fun q hq => Below.heap_setCell w ⟨g, i, none⟩ u q (fun e2 => own_ne h.out hg hne (by simp at e2; rw [hq, e2]))⟩
theorem PVw.wiB {w w' : World} {lo a b : Nat} {s : Sta} {p q : Nat} {vl vm vt vb vg : Value} (h : PVw w lo s p q vl vm vt vb vg) (c : Wi w w' a b) (hd : b ≤ lo) : PVw w' lo s p q vl vm vt vb vg := ⟨h.l.wiB c hd, h.m.wiB c hd, h.t.wiB c hd, h.b.wiB c hd, h.g.wiB c hd, h.ap⟩
theorem PVw.forms {w : World} {lo : Nat} {s : Sta} {p q : Nat} {vl vm vt vb vg : Value} (h : PVw w lo s p q vl vm vt vb vg) : ∃ (X0 : Option Addr) (y0 : Nat) (X1 : Option Addr) (y1 : Nat) (X2 : Option Addr) (y2 : Nat) (X3 : Option Addr) (y3 : Nat) (X4 : Option Addr) (y4 : Nat), vl = .slice X0 (q - p) y0 ∧ vm = .slice X1 (q - p) y1 ∧ vt = .slice X2 (q - p) y2 ∧ vb = .slice X3 s.bd.length y3 ∧ vg = .slice X4 8 y4 := by
  obtain ⟨X0, y0, e0, _⟩ := h.l.reads
  obtain ⟨X1, y1, e1, _⟩ := h.m.reads
  obtain ⟨X2, y2, e2, _⟩ := h.t.reads
  obtain ⟨X3, y3, e3, _⟩ := h.b.reads
  obtain ⟨X4, y4, e4, _⟩ := h.g.reads
  exact ⟨X0, y0, X1, y1, X2, y2, X3, y3, X4, y4, e0, e1, e2, e3, e4⟩
theorem w7_blk0 {w : World} {g : Nat} {c0 c1 c2 c3 c4 c5 c6 u0 u1 u2 u3 u4 u5 u6 : Value} {e : TypeId} (h : w.heap[g]? = some (.cells #[c0, c1, c2, c3, c4, c5, c6] e (0, 0))) : (w7 w g 0 u0 u1 u2 u3 u4 u5 u6).heap[g]? = some (.cells #[u0, u1, u2, u3, u4, u5, u6] e (0, 0)) := by have h2 := w7_blk h 0 u0 u1 u2 u3 u4 u5 u6; simpa [set7] using h2
theorem Cn.store {w w' : World} {base : Nat} {κ : Nat → Nat} {c t k n g : Nat} {v : Value} {F : List Int} {cs : Array Value} {e : TypeId} (h : Cn w base κ c t k v n F) (hg : w.heap[g]? = some (.cells cs e (0, 0))) (hne : t ≠ e) (hw : Wi w w' g (g + 1)) : Cn w' base κ c t k v n F := ⟨⟨own_move h.o.out fun q hq => hw.block q (h.hd q hq) (fun e2 => own_ne h.o.out hg hne (by rw [hq, show q = g by omega]))⟩, h.col⟩
end Go.Proofs.Ytaidbdogolhnjaa.U
