
/- The surface over a leaf, by the program and by the reference. -/
import Derived.Test.YtkendhkaheoinaaG23
import Derived.Test.YtkendhkaheoinaaKn
set_option linter.unusedVariables false
set_option linter.unusedSimpArgs false
namespace Go.Proofs.Ytkendhkaheoinaa.U
open Go.RowKit Go.Lib Go.Proofs.YtkendhkaheoinaaW.PrintWords
structure StF (s : Sta) : Prop where
 n : s.lv.length ≤ 128
 ms : s.ms.length = s.lv.length
 ts : s.ts.length = s.lv.length
 bd : s.bd.length ≤ 8
 lv : ∀ i, i < s.lv.length → (0 ≤ (gc s.lv i).l ∧ (gc s.lv i).l ≤ 4) ∧ 0 ≤ (gc s.lv i).r ∧ (gc s.lv i).r < s.bd.length
 mv : ∀ i : Nat, i < s.lv.length → 0 ≤ rd s.ms (i : Int) ∧ rd s.ms (i : Int) ≤ 10000000
 bv : ∀ k : Nat, k < s.bd.length → 0 ≤ rd s.bd (k : Int) ∧ rd s.bd (k : Int) ≤ 1000000
theorem meshEnd_mem : ∀ (l : List Ce) (a b : Int), meshEnd l a = some b → ∀ x ∈ l, ceEnd x ≤ b
 | [], a, b, h, x, hx => by simp at hx
 | y :: l, a, b, h, x, hx => by
  rw [meshEnd] at h
  split at h
  ·rcases List.mem_cons.1 hx with rfl | hx
   ·have := meshEnd_len l _ _ h
    omega
   ·exact meshEnd_mem l _ _ h x hx
  ·cases h
theorem StF.of {s : Sta} (h : staOk s.ro s.lv s.ms s.ts s.bd = true) : StF s := by
 have hl := staOk_len h
 simp only [staOk, isBal, hasC, Bool.and_eq_true, decide_eq_true_iff] at h
 obtain ⟨⟨h1, _⟩, ⟨⟨⟨⟨h2, h3⟩, h4⟩, h5⟩, h6⟩, _⟩ := h
 refine ⟨hl.1, h2, h3, by omega, fun i hi => ?_, fun i hi => ?_, fun k hk => ?_⟩
 ·have hm := gc_mem hi
  have hc := meshOk_all h1 _ hm
  have hf := ceOk_facts hc
  have he : ceEnd (gc s.lv i) ≤ s.ro * 16 := by
   unfold meshOk at h1
   cases he : meshEnd s.lv 0 with
   | none => rw [he] at h1; cases h1
   | some a =>
    rw [he, endIs, Bool.and_eq_true, inR_iff, decide_eq_true_iff] at h1
    have := meshEnd_mem s.lv 0 a he _ hm
    omega
  refine ⟨hf.2.1, hf.1.1, ?_⟩
  rw [ceEnd, ceAt, if_pos hc] at he
  have hw : 1 ≤ wid (gc s.lv i).l := by
   unfold wid
   have := hf.2.1
   (repeat' split) <;> omega
  have h0 : 0 ≤ (gc s.lv i).i * wid (gc s.lv i).l := Int.mul_nonneg hf.2.2.1.1 (by omega)
  omega
 ·exact (cellsOk_at s.ms s.ts _ 0 h6 i (by omega) (by omega)).1
 ·have := (List.all_eq_true.1 h5) s.bd[k] (List.getElem_mem hk)
  rw [inR_iff] at this
  rw [rd_nat, List.getD_eq_getElem?_getD, List.getElem?_eq_getElem hk]
  exact this
def surf (s : Sta) (i : Nat) : Int := rd s.bd (gc s.lv i).r + rd s.ms (i : Int) * pow2 (gc s.lv i).l
set_option maxHeartbeats 8000000 in
set_option maxRecDepth 100000 in
theorem impl_surface (x : Value) (s : Sta) (i : Nat) (w : World) (hx : StR w x s) (hs : StF s) (hi : i < s.lv.length) :
  Calls Try.prog 113 #[x, .int .i64 i] w fun e w' => e = .returned (.int .i64 (surf s i)) ∧ Bw w w' := by
 obtain ⟨A0, c0, A1, c1, A2, c2, A3, c3, rfl, r0, r1, r2, r3⟩ := hx
 have b0 := Bw.box1 w (.cells #[.int .i64 s.ro, .slice A0 s.lv.length c0, .slice A1 s.ms.length c1, .slice A2 s.ts.length c2, .slice A3 s.bd.length c3] 29)
 have g0 := box_cell (Bw.refl (w.alloc (.cells #[.int .i64 s.ro, .slice A0 s.lv.length c0, .slice A1 s.ms.length c1, .slice A2 s.ts.length c2, .slice A3 s.bd.length c3] 29))) 0
 have g1 := box_cell (Bw.refl (w.alloc (.cells #[.int .i64 s.ro, .slice A0 s.lv.length c0, .slice A1 s.ms.length c1, .slice A2 s.ts.length c2, .slice A3 s.bd.length c3] 29))) 1
 have g2 := box_cell (Bw.refl (w.alloc (.cells #[.int .i64 s.ro, .slice A0 s.lv.length c0, .slice A1 s.ms.length c1, .slice A2 s.ts.length c2, .slice A3 s.bd.length c3] 29))) 2
 have g3 := box_cell (Bw.refl (w.alloc (.cells #[.int .i64 s.ro, .slice A0 s.lv.length c0, .slice A1 s.ms.length c1, .slice A2 s.ts.length c2, .slice A3 s.bd.length c3] 29))) 3
 have g4 := box_cell (Bw.refl (w.alloc (.cells #[.int .i64 s.ro, .slice A0 s.lv.length c0, .slice A1 s.ms.length c1, .slice A2 s.ts.length c2, .slice A3 s.bd.length c3] 29))) 4
 simp only [List.getElem?_toArray, List.getElem?_cons_zero, List.getElem?_cons_succ] at g0 g1 g2 g3 g4
 obtain ⟨ad, rfl, x0, x1, x2⟩ := (r0.to b0).at i hi
 have hl := hs.lv i hi
 have hm := hs.mv i hi
 have hn := hs.n
 have hb8 := hs.bd
 have i0 : (0 : Int) ≤ (i : Int) := by omega
 have i1 : (i : Int) < (s.lv.length : Int) := by omega
 have hms := hs.ms
 have i2 : (i : Int) < (s.ms.length : Int) := by omega
 obtain ⟨am, rfl, m0⟩ := (r1.to b0).nat i (by omega)
 obtain ⟨k, hk⟩ : ∃ k : Nat, (gc s.lv i).r = (k : Int) := ⟨(gc s.lv i).r.toNat, by omega⟩
 have hkb : k < s.bd.length := by omega
 obtain ⟨ab, rfl, d0⟩ := (r3.to b0).nat k hkb
 have hbv := hs.bv k hkb
 have hsf : surf s i = rd s.bd (k : Int) + rd s.ms (i : Int) * pow2 (gc s.lv i).l := by rw [surf, hk]
 rw [hsf]
 rw [hk] at x0
 have k0 : (0 : Int) ≤ (k : Int) := by omega
 have k1 : (k : Int) < (s.bd.length : Int) := by omega
 obtain ⟨q, hq⟩ : ∃ q, (gc s.lv i).i = q := ⟨_, rfl⟩
 obtain ⟨lv, hlv⟩ : ∃ lv, (gc s.lv i).l = lv := ⟨_, rfl⟩
 obtain ⟨m, hmm⟩ : ∃ m, rd s.ms (i : Int) = m := ⟨_, rfl⟩
 obtain ⟨d, hdd⟩ : ∃ d, rd s.bd (k : Int) = d := ⟨_, rfl⟩
 rw [hq] at x2
 rw [hlv] at x1 hl ⊢
 rw [hmm] at m0 hm ⊢
 rw [hdd] at d0 hbv ⊢
 have h5 : lv = 0 ∨ lv = 1 ∨ lv = 2 ∨ lv = 3 ∨ lv = 4 := by omega
 clear hl hk hq hlv hmm hdd hs hsf hi hms r0 r1 r2 r3 hkb hb8 hn
 rcases h5 with rfl | rfl | rfl | rfl | rfl
 ·have hp : pow2 0 = 1 := rfl
  rw [hp]
  have e1 : wrap64 (m * 1) = m * 1 := w64 (by omega) (by omega)
  have e2 : IntKind.i64.wrap (m * 1) = m * 1 := i64w (by omega) (by omega)
  have e3 : wrap64 (d + m * 1) = d + m * 1 := w64 (by omega) (by omega)
  have e4 : IntKind.i64.wrap (d + m * 1) = d + m * 1 := i64w (by omega) (by omega)
  have b1 := Bw.box1 (w.alloc (.cells #[.int .i64 s.ro, .slice (some ad) s.lv.length c0, .slice (some am) s.ms.length c1, .slice A2 s.ts.length c2, .slice (some ab) s.bd.length c3] 29)) (.cells #[.int .i64 k, .int .i64 0, .int .i64 q] 72)
  have y0 := box_cell (Bw.refl ((w.alloc (.cells #[.int .i64 s.ro, .slice (some ad) s.lv.length c0, .slice (some am) s.ms.length c1, .slice A2 s.ts.length c2, .slice (some ab) s.bd.length c3] 29)).alloc (.cells #[.int .i64 k, .int .i64 0, .int .i64 q] 72))) 0
  have y1 := box_cell (Bw.refl ((w.alloc (.cells #[.int .i64 s.ro, .slice (some ad) s.lv.length c0, .slice (some am) s.ms.length c1, .slice A2 s.ts.length c2, .slice (some ab) s.bd.length c3] 29)).alloc (.cells #[.int .i64 k, .int .i64 0, .int .i64 q] 72))) 1
  have y2 := box_cell (Bw.refl ((w.alloc (.cells #[.int .i64 s.ro, .slice (some ad) s.lv.length c0, .slice (some am) s.ms.length c1, .slice A2 s.ts.length c2, .slice (some ab) s.bd.length c3] 29)).alloc (.cells #[.int .i64 k, .int .i64 0, .int .i64 q] 72))) 2
  simp only [List.getElem?_toArray, List.getElem?_cons_zero, List.getElem?_cons_succ] at y0 y1 y2
  rw [show (w.alloc (.cells #[.int .i64 s.ro, .slice (some ad) s.lv.length c0, .slice (some am) s.ms.length c1, .slice A2 s.ts.length c2, .slice (some ab) s.bd.length c3] 29)).heap.size = w.heap.size + 1 by simp] at y0 y1 y2
  have g0' := pw_cell_below b1.out g0
  have g1' := pw_cell_below b1.out g1
  have g2' := pw_cell_below b1.out g2
  have g3' := pw_cell_below b1.out g3
  have g4' := pw_cell_below b1.out g4
  have m0' := pw_cell_below b1.out m0
  have d0' := pw_cell_below b1.out d0
  go_enter Try.func113, Try.ntmps113
  go_wp2
  go_quiet (fail)
  go_wp2
  go_ret
  exact ⟨by first | rfl | exact ret_int (by omega), (b0.trans b1).trans (Bw.drawn ⟨⟨_, rfl⟩⟩)⟩
 ·have hp : pow2 1 = 2 := rfl
  rw [hp]
  have e1 : wrap64 (m * 2) = m * 2 := w64 (by omega) (by omega)
  have e2 : IntKind.i64.wrap (m * 2) = m * 2 := i64w (by omega) (by omega)
  have e3 : wrap64 (d + m * 2) = d + m * 2 := w64 (by omega) (by omega)
  have e4 : IntKind.i64.wrap (d + m * 2) = d + m * 2 := i64w (by omega) (by omega)
  have b1 := Bw.box1 (w.alloc (.cells #[.int .i64 s.ro, .slice (some ad) s.lv.length c0, .slice (some am) s.ms.length c1, .slice A2 s.ts.length c2, .slice (some ab) s.bd.length c3] 29)) (.cells #[.int .i64 k, .int .i64 1, .int .i64 q] 72)
  have y0 := box_cell (Bw.refl ((w.alloc (.cells #[.int .i64 s.ro, .slice (some ad) s.lv.length c0, .slice (some am) s.ms.length c1, .slice A2 s.ts.length c2, .slice (some ab) s.bd.length c3] 29)).alloc (.cells #[.int .i64 k, .int .i64 1, .int .i64 q] 72))) 0
  have y1 := box_cell (Bw.refl ((w.alloc (.cells #[.int .i64 s.ro, .slice (some ad) s.lv.length c0, .slice (some am) s.ms.length c1, .slice A2 s.ts.length c2, .slice (some ab) s.bd.length c3] 29)).alloc (.cells #[.int .i64 k, .int .i64 1, .int .i64 q] 72))) 1
  have y2 := box_cell (Bw.refl ((w.alloc (.cells #[.int .i64 s.ro, .slice (some ad) s.lv.length c0, .slice (some am) s.ms.length c1, .slice A2 s.ts.length c2, .slice (some ab) s.bd.length c3] 29)).alloc (.cells #[.int .i64 k, .int .i64 1, .int .i64 q] 72))) 2
  simp only [List.getElem?_toArray, List.getElem?_cons_zero, List.getElem?_cons_succ] at y0 y1 y2
  rw [show (w.alloc (.cells #[.int .i64 s.ro, .slice (some ad) s.lv.length c0, .slice (some am) s.ms.length c1, .slice A2 s.ts.length c2, .slice (some ab) s.bd.length c3] 29)).heap.size = w.heap.size + 1 by simp] at y0 y1 y2
  have g0' := pw_cell_below b1.out g0
  have g1' := pw_cell_below b1.out g1
  have g2' := pw_cell_below b1.out g2
  have g3' := pw_cell_below b1.out g3
  have g4' := pw_cell_below b1.out g4
  have m0' := pw_cell_below b1.out m0
  have d0' := pw_cell_below b1.out d0
  go_enter Try.func113, Try.ntmps113
  go_wp2
  go_quiet (fail)
  go_wp2
  go_ret
  exact ⟨by first | rfl | exact ret_int (by omega), (b0.trans b1).trans (Bw.drawn ⟨⟨_, rfl⟩⟩)⟩
 ·have hp : pow2 2 = 4 := rfl
  rw [hp]
  have e1 : wrap64 (m * 4) = m * 4 := w64 (by omega) (by omega)
  have e2 : IntKind.i64.wrap (m * 4) = m * 4 := i64w (by omega) (by omega)
  have e3 : wrap64 (d + m * 4) = d + m * 4 := w64 (by omega) (by omega)
  have e4 : IntKind.i64.wrap (d + m * 4) = d + m * 4 := i64w (by omega) (by omega)
  have b1 := Bw.box1 (w.alloc (.cells #[.int .i64 s.ro, .slice (some ad) s.lv.length c0, .slice (some am) s.ms.length c1, .slice A2 s.ts.length c2, .slice (some ab) s.bd.length c3] 29)) (.cells #[.int .i64 k, .int .i64 2, .int .i64 q] 72)
  have y0 := box_cell (Bw.refl ((w.alloc (.cells #[.int .i64 s.ro, .slice (some ad) s.lv.length c0, .slice (some am) s.ms.length c1, .slice A2 s.ts.length c2, .slice (some ab) s.bd.length c3] 29)).alloc (.cells #[.int .i64 k, .int .i64 2, .int .i64 q] 72))) 0
  have y1 := box_cell (Bw.refl ((w.alloc (.cells #[.int .i64 s.ro, .slice (some ad) s.lv.length c0, .slice (some am) s.ms.length c1, .slice A2 s.ts.length c2, .slice (some ab) s.bd.length c3] 29)).alloc (.cells #[.int .i64 k, .int .i64 2, .int .i64 q] 72))) 1
  have y2 := box_cell (Bw.refl ((w.alloc (.cells #[.int .i64 s.ro, .slice (some ad) s.lv.length c0, .slice (some am) s.ms.length c1, .slice A2 s.ts.length c2, .slice (some ab) s.bd.length c3] 29)).alloc (.cells #[.int .i64 k, .int .i64 2, .int .i64 q] 72))) 2
  simp only [List.getElem?_toArray, List.getElem?_cons_zero, List.getElem?_cons_succ] at y0 y1 y2
  rw [show (w.alloc (.cells #[.int .i64 s.ro, .slice (some ad) s.lv.length c0, .slice (some am) s.ms.length c1, .slice A2 s.ts.length c2, .slice (some ab) s.bd.length c3] 29)).heap.size = w.heap.size + 1 by simp] at y0 y1 y2
  have g0' := pw_cell_below b1.out g0
  have g1' := pw_cell_below b1.out g1
  have g2' := pw_cell_below b1.out g2
  have g3' := pw_cell_below b1.out g3
  have g4' := pw_cell_below b1.out g4
  have m0' := pw_cell_below b1.out m0
  have d0' := pw_cell_below b1.out d0
  go_enter Try.func113, Try.ntmps113
  go_wp2
  go_quiet (fail)
  go_wp2
  go_ret
  exact ⟨by first | rfl | exact ret_int (by omega), (b0.trans b1).trans (Bw.drawn ⟨⟨_, rfl⟩⟩)⟩
 ·have hp : pow2 3 = 8 := rfl
  rw [hp]
  have e1 : wrap64 (m * 8) = m * 8 := w64 (by omega) (by omega)
  have e2 : IntKind.i64.wrap (m * 8) = m * 8 := i64w (by omega) (by omega)
  have e3 : wrap64 (d + m * 8) = d + m * 8 := w64 (by omega) (by omega)
  have e4 : IntKind.i64.wrap (d + m * 8) = d + m * 8 := i64w (by omega) (by omega)
  have b1 := Bw.box1 (w.alloc (.cells #[.int .i64 s.ro, .slice (some ad) s.lv.length c0, .slice (some am) s.ms.length c1, .slice A2 s.ts.length c2, .slice (some ab) s.bd.length c3] 29)) (.cells #[.int .i64 k, .int .i64 3, .int .i64 q] 72)
  have y0 := box_cell (Bw.refl ((w.alloc (.cells #[.int .i64 s.ro, .slice (some ad) s.lv.length c0, .slice (some am) s.ms.length c1, .slice A2 s.ts.length c2, .slice (some ab) s.bd.length c3] 29)).alloc (.cells #[.int .i64 k, .int .i64 3, .int .i64 q] 72))) 0
  have y1 := box_cell (Bw.refl ((w.alloc (.cells #[.int .i64 s.ro, .slice (some ad) s.lv.length c0, .slice (some am) s.ms.length c1, .slice A2 s.ts.length c2, .slice (some ab) s.bd.length c3] 29)).alloc (.cells #[.int .i64 k, .int .i64 3, .int .i64 q] 72))) 1
  have y2 := box_cell (Bw.refl ((w.alloc (.cells #[.int .i64 s.ro, .slice (some ad) s.lv.length c0, .slice (some am) s.ms.length c1, .slice A2 s.ts.length c2, .slice (some ab) s.bd.length c3] 29)).alloc (.cells #[.int .i64 k, .int .i64 3, .int .i64 q] 72))) 2
  simp only [List.getElem?_toArray, List.getElem?_cons_zero, List.getElem?_cons_succ] at y0 y1 y2
  rw [show (w.alloc (.cells #[.int .i64 s.ro, .slice (some ad) s.lv.length c0, .slice (some am) s.ms.length c1, .slice A2 s.ts.length c2, .slice (some ab) s.bd.length c3] 29)).heap.size = w.heap.size + 1 by simp] at y0 y1 y2
  have g0' := pw_cell_below b1.out g0
  have g1' := pw_cell_below b1.out g1
  have g2' := pw_cell_below b1.out g2
  have g3' := pw_cell_below b1.out g3
  have g4' := pw_cell_below b1.out g4
  have m0' := pw_cell_below b1.out m0
  have d0' := pw_cell_below b1.out d0
  go_enter Try.func113, Try.ntmps113
  go_wp2
  go_quiet (fail)
  go_wp2
  go_ret
  exact ⟨by first | rfl | exact ret_int (by omega), (b0.trans b1).trans (Bw.drawn ⟨⟨_, rfl⟩⟩)⟩
 ·have hp : pow2 4 = 16 := rfl
  rw [hp]
  have e1 : wrap64 (m * 16) = m * 16 := w64 (by omega) (by omega)
  have e2 : IntKind.i64.wrap (m * 16) = m * 16 := i64w (by omega) (by omega)
  have e3 : wrap64 (d + m * 16) = d + m * 16 := w64 (by omega) (by omega)
  have e4 : IntKind.i64.wrap (d + m * 16) = d + m * 16 := i64w (by omega) (by omega)
  have b1 := Bw.box1 (w.alloc (.cells #[.int .i64 s.ro, .slice (some ad) s.lv.length c0, .slice (some am) s.ms.length c1, .slice A2 s.ts.length c2, .slice (some ab) s.bd.length c3] 29)) (.cells #[.int .i64 k, .int .i64 4, .int .i64 q] 72)
  have y0 := box_cell (Bw.refl ((w.alloc (.cells #[.int .i64 s.ro, .slice (some ad) s.lv.length c0, .slice (some am) s.ms.length c1, .slice A2 s.ts.length c2, .slice (some ab) s.bd.length c3] 29)).alloc (.cells #[.int .i64 k, .int .i64 4, .int .i64 q] 72))) 0
  have y1 := box_cell (Bw.refl ((w.alloc (.cells #[.int .i64 s.ro, .slice (some ad) s.lv.length c0, .slice (some am) s.ms.length c1, .slice A2 s.ts.length c2, .slice (some ab) s.bd.length c3] 29)).alloc (.cells #[.int .i64 k, .int .i64 4, .int .i64 q] 72))) 1
  have y2 := box_cell (Bw.refl ((w.alloc (.cells #[.int .i64 s.ro, .slice (some ad) s.lv.length c0, .slice (some am) s.ms.length c1, .slice A2 s.ts.length c2, .slice (some ab) s.bd.length c3] 29)).alloc (.cells #[.int .i64 k, .int .i64 4, .int .i64 q] 72))) 2
  simp only [List.getElem?_toArray, List.getElem?_cons_zero, List.getElem?_cons_succ] at y0 y1 y2
  rw [show (w.alloc (.cells #[.int .i64 s.ro, .slice (some ad) s.lv.length c0, .slice (some am) s.ms.length c1, .slice A2 s.ts.length c2, .slice (some ab) s.bd.length c3] 29)).heap.size = w.heap.size + 1 by simp] at y0 y1 y2
  have g0' := pw_cell_below b1.out g0
  have g1' := pw_cell_below b1.out g1
  have g2' := pw_cell_below b1.out g2
  have g3' := pw_cell_below b1.out g3
  have g4' := pw_cell_below b1.out g4
  have m0' := pw_cell_below b1.out m0
  have d0' := pw_cell_below b1.out d0
  go_enter Try.func113, Try.ntmps113
  go_wp2
  go_quiet (fail)
  go_wp2
  go_ret
  exact ⟨by first | rfl | exact ret_int (by omega), (b0.trans b1).trans (Bw.drawn ⟨⟨_, rfl⟩⟩)⟩
end Go.Proofs.Ytkendhkaheoinaa.U
set_option linter.unusedVariables false
set_option linter.unusedSimpArgs false
namespace Go.Proofs.Ytkendhkaheoinaa.U
open Go.RowKit Go.Lib Go.Proofs.YtkendhkaheoinaaW.PrintWords
open Go.Proofs.YtkendhkaheoinaaW.PrintLast Go.Proofs.YtkendhkaheoinaaW.PrintMore
set_option maxHeartbeats 8000000 in
set_option maxRecDepth 100000 in
theorem impl_side (x : Value) (s : Sta) (i : Nat) (w : World) (hx : StR w x s) (hs : StF s) (hi : i < s.lv.length) :
  Calls Try.prog 93 #[x, .int .i64 i] w fun e w' => e = .returned (.agg #[.int .i64 (gc s.lv i).l, .int .i64 (rd s.ms (i : Int)), .int .i64 (surf s i)]) ∧ Bw w w' := by
 have hx0 := hx
 obtain ⟨A0, c0, A1, c1, A2, c2, A3, c3, rfl, r0, r1, r2, r3⟩ := hx
 have b0 := Bw.box1 w (.cells #[.int .i64 s.ro, .slice A0 s.lv.length c0, .slice A1 s.ms.length c1, .slice A2 s.ts.length c2, .slice A3 s.bd.length c3] 29)
 have g0 := box_cell (Bw.refl (w.alloc (.cells #[.int .i64 s.ro, .slice A0 s.lv.length c0, .slice A1 s.ms.length c1, .slice A2 s.ts.length c2, .slice A3 s.bd.length c3] 29))) 0
 have g1 := box_cell (Bw.refl (w.alloc (.cells #[.int .i64 s.ro, .slice A0 s.lv.length c0, .slice A1 s.ms.length c1, .slice A2 s.ts.length c2, .slice A3 s.bd.length c3] 29))) 1
 have g2 := box_cell (Bw.refl (w.alloc (.cells #[.int .i64 s.ro, .slice A0 s.lv.length c0, .slice A1 s.ms.length c1, .slice A2 s.ts.length c2, .slice A3 s.bd.length c3] 29))) 2
 have g3 := box_cell (Bw.refl (w.alloc (.cells #[.int .i64 s.ro, .slice A0 s.lv.length c0, .slice A1 s.ms.length c1, .slice A2 s.ts.length c2, .slice A3 s.bd.length c3] 29))) 3
 have g4 := box_cell (Bw.refl (w.alloc (.cells #[.int .i64 s.ro, .slice A0 s.lv.length c0, .slice A1 s.ms.length c1, .slice A2 s.ts.length c2, .slice A3 s.bd.length c3] 29))) 4
 simp only [List.getElem?_toArray, List.getElem?_cons_zero, List.getElem?_cons_succ] at g0 g1 g2 g3 g4
 obtain ⟨ad, rfl, x0, x1, x2⟩ := (r0.to b0).at i hi
 have i0 : (0 : Int) ≤ (i : Int) := by omega
 have i1 : (i : Int) < (s.lv.length : Int) := by omega
 have i2 : (i : Int) < (s.ms.length : Int) := by have := hs.ms; omega
 obtain ⟨am, rfl, m0⟩ := (r1.to b0).nat i (by have := hs.ms; omega)
 obtain ⟨lv, hlv⟩ : ∃ lv, (gc s.lv i).l = lv := ⟨_, rfl⟩
 obtain ⟨m, hmm⟩ : ∃ m, rd s.ms (i : Int) = m := ⟨_, rfl⟩
 rw [hlv] at x1 ⊢
 rw [hmm] at m0 ⊢
 have HI := hid hi
 clear r0 r1 r2 r3 hlv hmm hi x0 x2
 have b1 := Bw.box1 (w.alloc (.cells #[.int .i64 s.ro, .slice (some ad) s.lv.length c0, .slice (some am) s.ms.length c1, .slice A2 s.ts.length c2, .slice A3 s.bd.length c3] 29)) (.cells #[.int .i64 0, .int .i64 0, .int .i64 0] 98)
 have H : ((w.alloc (.cells #[.int .i64 s.ro, .slice (some ad) s.lv.length c0, .slice (some am) s.ms.length c1, .slice A2 s.ts.length c2, .slice A3 s.bd.length c3] 29)).alloc (.cells #[.int .i64 0, .int .i64 0, .int .i64 0] 98)).heap[w.heap.size + 1]? = some (.cells #[.int .i64 0, .int .i64 0, .int .i64 0] 98 (0, 0)) := by
  have h := heap_alloc_new (w.alloc (.cells #[.int .i64 s.ro, .slice (some ad) s.lv.length c0, .slice (some am) s.ms.length c1, .slice A2 s.ts.length c2, .slice A3 s.bd.length c3] 29)) (.cells #[.int .i64 0, .int .i64 0, .int .i64 0] 98 (0, 0))
  rwa [show (w.alloc (.cells #[.int .i64 s.ro, .slice (some ad) s.lv.length c0, .slice (some am) s.ms.length c1, .slice A2 s.ts.length c2, .slice A3 s.bd.length c3] 29)).heap.size = w.heap.size + 1 by simp] at h
 replace g0 := pw_cell_below b1.out g0
 replace g1 := pw_cell_below b1.out g1
 replace g2 := pw_cell_below b1.out g2
 replace g3 := pw_cell_below b1.out g3
 replace g4 := pw_cell_below b1.out g4
 replace x1 := pw_cell_below b1.out x1
 replace m0 := pw_cell_below b1.out m0
 replace b0 := b0.trans b1
 clear b1
 go_enter Try.func93, Try.ntmps93
 go_wp2
 generalize ((w.alloc (.cells #[.int .i64 s.ro, .slice (some ad) s.lv.length c0, .slice (some am) s.ms.length c1, .slice A2 s.ts.length c2, .slice A3 s.bd.length c3] 29)).alloc (.cells #[.int .i64 0, .int .i64 0, .int .i64 0] 98)) = W1 at *
 refine start_ (n := 17) (S := fun w' => w'.cell? ⟨w.heap.size, 0, none⟩ = some (.int .i64 s.ro) ∧ w'.cell? ⟨w.heap.size, 1, none⟩ = some (.slice (some ad) s.lv.length c0) ∧ w'.cell? ⟨w.heap.size, 2, none⟩ = some (.slice (some am) s.ms.length c1) ∧ w'.cell? ⟨w.heap.size, 3, none⟩ = some (.slice A2 s.ts.length c2) ∧ w'.cell? ⟨w.heap.size, 4, none⟩ = some (.slice A3 s.bd.length c3) ∧ w'.cell? ⟨(ad.add (i * 3)).block, (ad.add (i * 3)).off + 1, none⟩ = some (.int .i64 lv) ∧ w'.cell? (am.add i) = some (.int .i64 m)) (ds := [16]) #[false, false, false, false, false, false, false, false, false, false, false, false, false, false, false, false, false] (by kernel_rfl) rfl rfl ⟨g0, g1, g2, g3, g4, x1, m0⟩ (fun hHeld => ?_)
 refine pq_ (i := 0) (N := (some 5)) (v := ?_) (a' := ?_) rfl rfl (by kernel_rfl) (fun _ _ _ h => h) (Or.inl ⟨by rfl, ?_⟩) ?_ ?_
 rotate_left; (intro w'; go_simp; with_reducible rfl); rotate_left; (simp only [Act.put, s1_, s2_, s3_, i64_w, i32_w]; rfl)
 refine pq_ (i := 1) (N := (some 6)) (v := ?_) (a' := ?_) rfl rfl (by kernel_rfl) (fun _ _ _ h => h) (Or.inl ⟨by rfl, ?_⟩) ?_ ?_
 rotate_left; (intro w'; go_simp; with_reducible rfl); rotate_left; (simp only [Act.put, s1_, s2_, s3_, i64_w, i32_w]; rfl)
 refine tq_ (i := 2) (N := (some 7)) (v := ?_) (a' := ?_) rfl rfl (by kernel_rfl) (fun _ _ _ h => h) (Or.inl ⟨by rfl, ?_⟩) hHeld ?_ ?_
 rotate_left; (rintro w' ⟨s0, s1, s2, s3, s4, s5, s6⟩; go_simp; with_reducible rfl); rotate_left; (simp only [Act.put, s1_, s2_, s3_, i64_w, i32_w]; rfl)
 refine pq_ (i := 3) (N := (some 8)) (v := ?_) (a' := ?_) rfl rfl (by kernel_rfl) (fun _ _ _ h => h) (Or.inl ⟨by rfl, ?_⟩) ?_ ?_
 rotate_left; (intro w'; go_simp; with_reducible rfl); rotate_left; (simp only [Act.put, s1_, s2_, s3_, i64_w, i32_w]; rfl)
 refine pq_ (i := 4) (N := (some 9)) (v := ?_) (a' := ?_) rfl rfl (by kernel_rfl) (fun _ _ _ h => h) (Or.inl ⟨by rfl, ?_⟩) ?_ ?_
 rotate_left; (intro w'; go_simp; with_reducible rfl); rotate_left; (simp only [Act.put, s1_, s2_, s3_, i64_w, i32_w]; rfl)
 refine pq_ (i := 5) (N := (some 10)) (v := ?_) (a' := ?_) rfl rfl (by kernel_rfl) (fun _ _ _ h => h) (Or.inl ⟨by rfl, ?_⟩) ?_ ?_
 rotate_left; (intro w'; go_simp; with_reducible rfl); rotate_left; (simp only [Act.put, s1_, s2_, s3_, i64_w, i32_w]; rfl)
 refine tq_ (i := 6) (N := (some 11)) (v := ?_) (a' := ?_) rfl rfl (by kernel_rfl) (fun _ _ _ h => h) (Or.inl ⟨by rfl, ?_⟩) hHeld ?_ ?_
 rotate_left; (rintro w' ⟨s0, s1, s2, s3, s4, s5, s6⟩; go_simp; with_reducible rfl); rotate_left; (simp only [Act.put, s1_, s2_, s3_, i64_w, i32_w]; rfl)
 refine pq_ (i := 7) (N := (some 12)) (v := ?_) (a' := ?_) rfl rfl (by kernel_rfl) (fun _ _ _ h => h) (Or.inl ⟨by rfl, ?_⟩) ?_ ?_
 rotate_left; (intro w'; go_simp; with_reducible rfl); rotate_left; (simp only [Act.put, s1_, s2_, s3_, i64_w, i32_w]; rfl)
 refine tq_ (i := 8) (N := (some 13)) (v := ?_) (a' := ?_) rfl rfl (by kernel_rfl) (fun _ _ _ h => h) (Or.inl ⟨by rfl, ?_⟩) hHeld ?_ ?_
 rotate_left; (rintro w' ⟨s0, s1, s2, s3, s4, s5, s6⟩; go_simp; with_reducible rfl); rotate_left; (simp only [Act.put, s1_, s2_, s3_, i64_w, i32_w]; rfl)
 refine pq_ (i := 9) (N := (some 14)) (v := ?_) (a' := ?_) rfl rfl (by kernel_rfl) (fun _ _ _ h => h) (Or.inl ⟨by rfl, ?_⟩) ?_ ?_
 rotate_left; (intro w'; go_simp; with_reducible rfl); rotate_left; (simp only [Act.put, s1_, s2_, s3_, i64_w, i32_w]; rfl)
 refine pq_ (i := 10) (N := (some 15)) (v := ?_) (a' := ?_) rfl rfl (by kernel_rfl) (fun _ _ _ h => h) (Or.inl ⟨by rfl, ?_⟩) ?_ ?_
 rotate_left; (intro w'; go_simp; with_reducible rfl); rotate_left; (simp only [Act.put, s1_, s2_, s3_, i64_w, i32_w]; rfl)
 refine tq_ (i := 11) (N := (some 16)) (v := ?_) (a' := ?_) rfl rfl (by kernel_rfl) (fun _ _ _ h => h) (Or.inl ⟨by rfl, ?_⟩) hHeld ?_ ?_
 rotate_left; (rintro w' ⟨s0, s1, s2, s3, s4, s5, s6⟩; go_simp; with_reducible rfl); rotate_left; (simp only [Act.put, s1_, s2_, s3_, i64_w, i32_w]; rfl)
 refine tq_ (i := 12) (N := (some 17)) (v := ?_) (a' := ?_) rfl rfl (by kernel_rfl) (fun _ _ _ h => h) (Or.inl ⟨by rfl, ?_⟩) hHeld ?_ ?_
 rotate_left; (rintro w' ⟨s0, s1, s2, s3, s4, s5, s6⟩; go_simp; with_reducible rfl); rotate_left; (simp only [Act.put, s1_, s2_, s3_, i64_w, i32_w]; rfl)
 refine pq_ (i := 13) (N := (some 18)) (v := ?_) (a' := ?_) rfl rfl (by kernel_rfl) (fun _ _ _ h => h) (Or.inl ⟨by rfl, ?_⟩) ?_ ?_
 rotate_left; (intro w'; go_simp; with_reducible rfl); rotate_left; (simp only [Act.put, s1_, s2_, s3_, i64_w, i32_w]; rfl)
 refine one_ (i := 14) (N := (some 19)) #[true, true, true, true, true, true, true, true, true, true, true, true, true, true, true, false, false] rfl rfl (by kernel_rfl) (by decide) (fun K hK => ?_)
 refine goes_ Try.func113 (by kernel_rfl) rfl #[.agg #[.int .i64 s.ro, .slice (some ad) s.lv.length c0, .slice (some am) s.ms.length c1, .slice A2 s.ts.length c2, .slice A3 s.bd.length c3], .int .i64 i] (by rfl) rfl rfl (by (try simp only [List.map_toArray, List.map_cons, List.map_nil]); first | done | rfl) ?_
 refine (impl_surface _ s i _ (hx0.to (b0.trans (Bw.drawn ⟨⟨1, rfl⟩⟩))) hs HI.out).mono ?_
 rintro e w' ⟨rfl, b⟩
 refine ⟨_, rfl, ?_⟩
 have b7 := (Bw.drawn (a := W1) ⟨⟨1, rfl⟩⟩).trans b
 have H7 := (b7.out.block _ (blk_lt H)).trans H
 have B7 := b0.trans b7
 refine hK.out _ _ ⟨pw_cell_below b7.out g0, pw_cell_below b7.out g1, pw_cell_below b7.out g2, pw_cell_below b7.out g3, pw_cell_below b7.out g4, pw_cell_below b7.out x1, pw_cell_below b7.out m0⟩ (fun hHeld => ?_)
 clear hK K; refine norm_ (a' := ?_) ?_ ?_; rotate_left; (show Act.put _ (some 19) _ = _; simp only [Act.put, s1_, s2_, s3_, i64_w, i32_w]; rfl)
 refine pq_ (i := 15) (N := (some 20)) (v := ?_) (a' := ?_) rfl rfl (by kernel_rfl) (fun _ _ _ h => h) (Or.inl ⟨by rfl, ?_⟩) ?_ ?_
 rotate_left; (intro w'; go_simp; with_reducible rfl); rotate_left; (simp only [Act.put, s1_, s2_, s3_, i64_w, i32_w]; rfl)
 refine last_ (i := 16) (N := none) #[true, true, true, true, true, true, true, true, true, true, true, true, true, true, true, true, true] rfl rfl (by kernel_rfl) (by decide) (fun K hK => ?_)
 have z0 := blk_cell H7 0
 have f0 := blk_frozen H7 0
 have z1 := blk_cell H7 1
 have f1 := blk_frozen H7 1
 have z2 := blk_cell H7 2
 have f2 := blk_frozen H7 2
 simp only [List.getElem?_toArray, List.getElem?_cons_zero, List.getElem?_cons_succ] at z0 z1 z2
 refine skip_ (w1 := ?_) (by rfl) rfl ?_ ?_
 rotate_left
 ·go_simp
  rfl
 refine hK.out _ _ ?_
 clear hK K
 refine done_ (by kernel_rfl) ?_
 go_wp2
 refine bodyPost_ret (results_cell_row rfl _ _ (w.heap.size + 1) 98 #[.int .i64 lv, .int .i64 m, .int .i64 (surf s i)] (0, 0) _ rfl ((blk_set (blk_set (blk_set H7 0 _) 1 _) 2 _).trans rfl) Try.underlying98 rfl (by kernel_rfl)) rfl ⟨rfl, ?_⟩
 exact bw_set (bw_set (bw_set B7 (by omega) _ _) (by omega) _ _) (by omega) _ _
end Go.Proofs.Ytkendhkaheoinaa.U
set_option linter.unusedVariables false
set_option linter.unusedSimpArgs false
namespace Go.Proofs.Ytkendhkaheoinaa.U
open Go.RowKit Go.Lib Go.Proofs.YtkendhkaheoinaaW.PrintWords
open Go.Proofs.YtkendhkaheoinaaW.PrintLast Go.Proofs.YtkendhkaheoinaaW.PrintMore
def StC (w : World) (x : Value) (s : Sta) : Prop := ∃ (A0 : Option Addr) (c0 : Nat) (A1 : Option Addr) (c1 : Nat) (A2 : Option Addr) (c2 : Nat) (A3 : Option Addr) (c3 : Nat), x = .agg #[.int .i64 s.ro, .slice A0 s.lv.length c0, .slice A1 s.ms.length c1, .slice A2 s.ts.length c2, .slice A3 s.bd.length c3] ∧ IdR w A0 s.lv.length s.lv ∧ RI w A1 s.ms.length s.ms ∧ RI w A2 s.ts.length s.ts ∧ RI w A3 s.bd.length s.bd ∧ s.lv.length ≤ c0 ∧ s.ms.length ≤ c1 ∧ s.ts.length ≤ c2 ∧ s.bd.length ≤ c3
theorem StC.to {w w' : World} {x : Value} {s : Sta} (h : StC w x s) (b : Bw w w') : StC w' x s := by
 obtain ⟨A0, c0, A1, c1, A2, c2, A3, c3, rfl, r0, r1, r2, r3, k⟩ := h
 exact ⟨A0, c0, A1, c1, A2, c2, A3, c3, rfl, r0.to b, r1.to b, r2.to b, r3.to b, k⟩
theorem StC.r {w : World} {x : Value} {s : Sta} (h : StC w x s) : StR w x s := by
 obtain ⟨A0, c0, A1, c1, A2, c2, A3, c3, rfl, r0, r1, r2, r3, k⟩ := h
 exact ⟨A0, c0, A1, c1, A2, c2, A3, c3, rfl, r0, r1, r2, r3⟩
theorem StO.c {w : World} {lo hi : Nat} {x : Value} {s : Sta} (h : StO w lo hi x s) : StC w x s := by
 obtain ⟨vl, vm, vt, vb, rfl, h1, h2, h3, h4, _⟩ := h
 obtain ⟨A0, c0, rfl, k0, f0⟩ := h1.reads
 obtain ⟨A1, c1, rfl, k1, f1⟩ := h2.reads
 obtain ⟨A2, c2, rfl, k2, f2⟩ := h3.reads
 obtain ⟨A3, c3, rfl, k3, f3⟩ := h4.reads
 exact ⟨A0, c0, A1, c1, A2, c2, A3, c3, rfl, f0.id, f1.ri, f2.ri, f3.ri, k0, k1, k2, k3⟩
end Go.Proofs.Ytkendhkaheoinaa.U
