
/- The surface over a leaf, by the program and by the reference. -/
import Derived.Test.YtaidbdogolhnjaaG23
import Derived.Test.YtaidbdogolhnjaaKn
set_option linter.unusedVariables false
set_option linter.unusedSimpArgs false
namespace Go.Proofs.Ytaidbdogolhnjaa.U
open Go.RowKit Go.Lib Go.Proofs.YtaidbdogolhnjaaW.PrintWords

/-- what holds of a valid state, for reading it -/
structure StF (s : Sta) : Prop where
  n : s.lv.length ≤ 128
  ms : s.ms.length = s.lv.length
  ts : s.ts.length = s.lv.length
  bd : s.bd.length ≤ 8
  lv : ∀ i, i < s.lv.length → (0 ≤ (gc s.lv i).l ∧ (gc s.lv i).l ≤ 4) ∧ 0 ≤ (gc s.lv i).r ∧ (gc s.lv i).r < s.bd.length
  mv : ∀ i : Nat, i < s.lv.length → 0 ≤ rd s.ms (i : Int) ∧ rd s.ms (i : Int) ≤ 10000000
  bv : ∀ k : Nat, k < s.bd.length → 0 ≤ rd s.bd (k : Int) ∧ rd s.bd (k : Int) ≤ 1000000
theorem meshEnd_mem : ∀ (l : List Ce) (a b : Int), meshEnd l a = some b → ∀ x ∈ l, ceEnd x ≤ b
  | [], a, b, h, x, hx => by simp at hx
  | y :: l, a, b, h, x, hx => by
    rw [meshEnd] at h
    split at h
    · rcases List.mem_cons.1 hx with rfl | hx
      · have := meshEnd_len l _ _ h
        omega
      · exact meshEnd_mem l _ _ h x hx
    · cases h
theorem StF.of {s : Sta} (h : staOk s.ro s.lv s.ms s.ts s.bd = true) : StF s := by
  have hl := staOk_len h
  simp only [staOk, isBal, hasC, Bool.and_eq_true, decide_eq_true_iff] at h
  obtain ⟨⟨h1, _⟩, ⟨⟨⟨⟨h2, h3⟩, h4⟩, h5⟩, h6⟩, _⟩ := h
  refine ⟨hl.1, h2, h3, by omega, fun i hi => ?_, fun i hi => ?_, fun k hk => ?_⟩
  · have hm := gc_mem hi
    have hc := meshOk_all h1 _ hm
    have hf := ceOk_facts hc
    have he : ceEnd (gc s.lv i) ≤ s.ro * 16 := by
      unfold meshOk at h1
      cases he : meshEnd s.lv 0 with
      | none => rw [he] at h1; cases h1
      | some a =>
        rw [he, endIs, Bool.and_eq_true, inR_iff, decide_eq_true_iff] at h1
        have := meshEnd_mem s.lv 0 a he _ hm
        omega
    refine ⟨hf.2.1, hf.1.1, ?_⟩
    rw [ceEnd, ceAt, if_pos hc] at he
    have hw : 1 ≤ wid (gc s.lv i).l := by
      unfold wid
      have := hf.2.1
      (repeat' split) <;> omega
    have h0 : 0 ≤ (gc s.lv i).i * wid (gc s.lv i).l := Int.mul_nonneg hf.2.2.1.1 (by omega)
    omega
  · exact (cellsOk_at s.ms s.ts _ 0 h6 i (by omega) (by omega)).1
  · have := (List.all_eq_true.1 h5) s.bd[k] (List.getElem_mem hk)
    rw [inR_iff] at this
    rw [rd_nat, List.getD_eq_getElem?_getD, List.getElem?_eq_getElem hk]
    exact this
/-- the surface over a leaf -/
def surf (s : Sta) (i : Nat) : Int := rd s.bd (gc s.lv i).r + rd s.ms (i : Int) * pow2 (gc s.lv i).l
set_option maxHeartbeats 8000000 in
set_option maxRecDepth 100000 in
theorem impl_surface (x : Value) (s : Sta) (i : Nat) (w : World) (hx : StR w x s) (hs : StF s) (hi : i < s.lv.length) :
    Calls Try.prog 107 #[x, .int .i64 i] w fun e w' => e = .returned (.int .i64 (surf s i)) ∧ Bw w w' := by
  obtain ⟨A0, c0, A1, c1, A2, c2, A3, c3, rfl, r0, r1, r2, r3⟩ := hx
  have b0 := Bw.box1 w (.cells #[.int .i64 s.ro, .slice A0 s.lv.length c0, .slice A1 s.ms.length c1, .slice A2 s.ts.length c2, .slice A3 s.bd.length c3] 29)
  have g0 := box_cell (Bw.refl (w.alloc (.cells #[.int .i64 s.ro, .slice A0 s.lv.length c0, .slice A1 s.ms.length c1, .slice A2 s.ts.length c2, .slice A3 s.bd.length c3] 29))) 0
  have g1 := box_cell (Bw.refl (w.alloc (.cells #[.int .i64 s.ro, .slice A0 s.lv.length c0, .slice A1 s.ms.length c1, .slice A2 s.ts.length c2, .slice A3 s.bd.length c3] 29))) 1
  have g2 := box_cell (Bw.refl (w.alloc (.cells #[.int .i64 s.ro, .slice A0 s.lv.length c0, .slice A1 s.ms.length c1, .slice A2 s.ts.length c2, .slice A3 s.bd.length c3] 29))) 2
  have g3 := box_cell (Bw.refl (w.alloc (.cells #[.int .i64 s.ro, .slice A0 s.lv.length c0, .slice A1 s.ms.length c1, .slice A2 s.ts.length c2, .slice A3 s.bd.length c3] 29))) 3
  have g4 := box_cell (Bw.refl (w.alloc (.cells #[.int .i64 s.ro, .slice A0 s.lv.length c0, .slice A1 s.ms.length c1, .slice A2 s.ts.length c2, .slice A3 s.bd.length c3] 29))) 4
  simp only [List.getElem?_toArray, List.getElem?_cons_zero, List.getElem?_cons_succ] at g0 g1 g2 g3 g4
  obtain ⟨ad, rfl, x0, x1, x2⟩ := (r0.to b0).at i hi
  have hl := hs.lv i hi
  have hm := hs.mv i hi
  have hn := hs.n
  have hb8 := hs.bd
  have i0 : (0 : Int) ≤ (i : Int) := by omega
  have i1 : (i : Int) < (s.lv.length : Int) := by omega
  have hms := hs.ms
  have i2 : (i : Int) < (s.ms.length : Int) := by omega
  obtain ⟨am, rfl, m0⟩ := (r1.to b0).nat i (by omega)
  obtain ⟨k, hk⟩ : ∃ k : Nat, (gc s.lv i).r = (k : Int) := ⟨(gc s.lv i).r.toNat, by omega⟩
  have hkb : k < s.bd.length := by omega
  obtain ⟨ab, rfl, d0⟩ := (r3.to b0).nat k hkb
  have hbv := hs.bv k hkb
  have hsf : surf s i = rd s.bd (k : Int) + rd s.ms (i : Int) * pow2 (gc s.lv i).l := by rw [surf, hk]
  rw [hsf]
  rw [hk] at x0
  have k0 : (0 : Int) ≤ (k : Int) := by omega
  have k1 : (k : Int) < (s.bd.length : Int) := by omega
  obtain ⟨q, hq⟩ : ∃ q, (gc s.lv i).i = q := ⟨_, rfl⟩
  obtain ⟨lv, hlv⟩ : ∃ lv, (gc s.lv i).l = lv := ⟨_, rfl⟩
  obtain ⟨m, hmm⟩ : ∃ m, rd s.ms (i : Int) = m := ⟨_, rfl⟩
  obtain ⟨d, hdd⟩ : ∃ d, rd s.bd (k : Int) = d := ⟨_, rfl⟩
  rw [hq] at x2
  rw [hlv] at x1 hl ⊢
  rw [hmm] at m0 hm ⊢
  rw [hdd] at d0 hbv ⊢
  have h5 : lv = 0 ∨ lv = 1 ∨ lv = 2 ∨ lv = 3 ∨ lv = 4 := by omega
  clear hl hk hq hlv hmm hdd hs hsf hi hms r0 r1 r2 r3 hkb hb8 hn
  rcases h5 with rfl | rfl | rfl | rfl | rfl
  · have hp : pow2 0 = 1 := rfl
    rw [hp]
    have e1 : wrap64 (m * 1) = m * 1 := w64 (by omega) (by omega)
    have e2 : IntKind.i64.wrap (m * 1) = m * 1 := i64w (by omega) (by omega)
    have e3 : wrap64 (d + m * 1) = d + m * 1 := w64 (by omega) (by omega)
    have e4 : IntKind.i64.wrap (d + m * 1) = d + m * 1 := i64w (by omega) (by omega)
    have b1 := Bw.box1 (w.alloc (.cells #[.int .i64 s.ro, .slice (some ad) s.lv.length c0, .slice (some am) s.ms.length c1, .slice A2 s.ts.length c2, .slice (some ab) s.bd.length c3] 29)) (.cells #[.int .i64 k, .int .i64 0, .int .i64 q] 58)
    have y0 := box_cell (Bw.refl ((w.alloc (.cells #[.int .i64 s.ro, .slice (some ad) s.lv.length c0, .slice (some am) s.ms.length c1, .slice A2 s.ts.length c2, .slice (some ab) s.bd.length c3] 29)).alloc (.cells #[.int .i64 k, .int .i64 0, .int .i64 q] 58))) 0
    have y1 := box_cell (Bw.refl ((w.alloc (.cells #[.int .i64 s.ro, .slice (some ad) s.lv.length c0, .slice (some am) s.ms.length c1, .slice A2 s.ts.length c2, .slice (some ab) s.bd.length c3] 29)).alloc (.cells #[.int .i64 k, .int .i64 0, .int .i64 q] 58))) 1
    have y2 := box_cell (Bw.refl ((w.alloc (.cells #[.int .i64 s.ro, .slice (some ad) s.lv.length c0, .slice (some am) s.ms.length c1, .slice A2 s.ts.length c2, .slice (some ab) s.bd.length c3] 29)).alloc (.cells #[.int .i64 k, .int .i64 0, .int .i64 q] 58))) 2
    simp only [List.getElem?_toArray, List.getElem?_cons_zero, List.getElem?_cons_succ] at y0 y1 y2
    rw [show (w.alloc (.cells #[.int .i64 s.ro, .slice (some ad) s.lv.length c0, .slice (some am) s.ms.length c1, .slice A2 s.ts.length c2, .slice (some ab) s.bd.length c3] 29)).heap.size = w.heap.size + 1 by simp] at y0 y1 y2
    have g0' := pw_cell_below b1.out g0
    have g1' := pw_cell_below b1.out g1
    have g2' := pw_cell_below b1.out g2
    have g3' := pw_cell_below b1.out g3
    have g4' := pw_cell_below b1.out g4
    have m0' := pw_cell_below b1.out m0
    have d0' := pw_cell_below b1.out d0
    go_enter Try.func107, Try.ntmps107
    go_wp2
    go_quiet (fail)
    go_wp2
    go_ret
    exact ⟨by first | rfl | exact ret_int (by omega), (b0.trans b1).trans (Bw.drawn ⟨⟨_, rfl⟩⟩)⟩
  · have hp : pow2 1 = 2 := rfl
    rw [hp]
    have e1 : wrap64 (m * 2) = m * 2 := w64 (by omega) (by omega)
    have e2 : IntKind.i64.wrap (m * 2) = m * 2 := i64w (by omega) (by omega)
    have e3 : wrap64 (d + m * 2) = d + m * 2 := w64 (by omega) (by omega)
    have e4 : IntKind.i64.wrap (d + m * 2) = d + m * 2 := i64w (by omega) (by omega)
    have b1 := Bw.box1 (w.alloc (.cells #[.int .i64 s.ro, .slice (some ad) s.lv.length c0, .slice (some am) s.ms.length c1, .slice A2 s.ts.length c2, .slice (some ab) s.bd.length c3] 29)) (.cells #[.int .i64 k, .int .i64 1, .int .i64 q] 58)
    have y0 := box_cell (Bw.refl ((w.alloc (.cells #[.int .i64 s.ro, .slice (some ad) s.lv.length c0, .slice (some am) s.ms.length c1, .slice A2 s.ts.length c2, .slice (some ab) s.bd.length c3] 29)).alloc (.cells #[.int .i64 k, .int .i64 1, .int .i64 q] 58))) 0
    have y1 := box_cell (Bw.refl ((w.alloc (.cells #[.int .i64 s.ro, .slice (some ad) s.lv.length c0, .slice (some am) s.ms.length c1, .slice A2 s.ts.length c2, .slice (some ab) s.bd.length c3] 29)).alloc (.cells #[.int .i64 k, .int .i64 1, .int .i64 q] 58))) 1
    have y2 := box_cell (Bw.refl ((w.alloc (.cells #[.int .i64 s.ro, .slice (some ad) s.lv.length c0, .slice (some am) s.ms.length c1, .slice A2 s.ts.length c2, .slice (some ab) s.bd.length c3] 29)).alloc (.cells #[.int .i64 k, .int .i64 1, .int .i64 q] 58))) 2
    simp only [List.getElem?_toArray, List.getElem?_cons_zero, List.getElem?_cons_succ] at y0 y1 y2
    rw [show (w.alloc (.cells #[.int .i64 s.ro, .slice (some ad) s.lv.length c0, .slice (some am) s.ms.length c1, .slice A2 s.ts.length c2, .slice (some ab) s.bd.length c3] 29)).heap.size = w.heap.size + 1 by simp] at y0 y1 y2
    have g0' := pw_cell_below b1.out g0
    have g1' := pw_cell_below b1.out g1
    have g2' := pw_cell_below b1.out g2
    have g3' := pw_cell_below b1.out g3
    have g4' := pw_cell_below b1.out g4
    have m0' := pw_cell_below b1.out m0
    have d0' := pw_cell_below b1.out d0
    go_enter Try.func107, Try.ntmps107
    go_wp2
    go_quiet (fail)
    go_wp2
    go_ret
    exact ⟨by first | rfl | exact ret_int (by omega), (b0.trans b1).trans (Bw.drawn ⟨⟨_, rfl⟩⟩)⟩
  · have hp : pow2 2 = 4 := rfl
    rw [hp]
    have e1 : wrap64 (m * 4) = m * 4 := w64 (by omega) (by omega)
    have e2 : IntKind.i64.wrap (m * 4) = m * 4 := i64w (by omega) (by omega)
    have e3 : wrap64 (d + m * 4) = d + m * 4 := w64 (by omega) (by omega)
    have e4 : IntKind.i64.wrap (d + m * 4) = d + m * 4 := i64w (by omega) (by omega)
    have b1 := Bw.box1 (w.alloc (.cells #[.int .i64 s.ro, .slice (some ad) s.lv.length c0, .slice (some am) s.ms.length c1, .slice A2 s.ts.length c2, .slice (some ab) s.bd.length c3] 29)) (.cells #[.int .i64 k, .int .i64 2, .int .i64 q] 58)
    have y0 := box_cell (Bw.refl ((w.alloc (.cells #[.int .i64 s.ro, .slice (some ad) s.lv.length c0, .slice (some am) s.ms.length c1, .slice A2 s.ts.length c2, .slice (some ab) s.bd.length c3] 29)).alloc (.cells #[.int .i64 k, .int .i64 2, .int .i64 q] 58))) 0
    have y1 := box_cell (Bw.refl ((w.alloc (.cells #[.int .i64 s.ro, .slice (some ad) s.lv.length c0, .slice (some am) s.ms.length c1, .slice A2 s.ts.length c2, .slice (some ab) s.bd.length c3] 29)).alloc (.cells #[.int .i64 k, .int .i64 2, .int .i64 q] 58))) 1
    have y2 := box_cell (Bw.refl ((w.alloc (.cells #[.int .i64 s.ro, .slice (some ad) s.lv.length c0, .slice (some am) s.ms.length c1, .slice A2 s.ts.length c2, .slice (some ab) s.bd.length c3] 29)).alloc (.cells #[.int .i64 k, .int .i64 2, .int .i64 q] 58))) 2
    simp only [List.getElem?_toArray, List.getElem?_cons_zero, List.getElem?_cons_succ] at y0 y1 y2
    rw [show (w.alloc (.cells #[.int .i64 s.ro, .slice (some ad) s.lv.length c0, .slice (some am) s.ms.length c1, .slice A2 s.ts.length c2, .slice (some ab) s.bd.length c3] 29)).heap.size = w.heap.size + 1 by simp] at y0 y1 y2
    have g0' := pw_cell_below b1.out g0
    have g1' := pw_cell_below b1.out g1
    have g2' := pw_cell_below b1.out g2
    have g3' := pw_cell_below b1.out g3
    have g4' := pw_cell_below b1.out g4
    have m0' := pw_cell_below b1.out m0
    have d0' := pw_cell_below b1.out d0
    go_enter Try.func107, Try.ntmps107
    go_wp2
    go_quiet (fail)
    go_wp2
    go_ret
    exact ⟨by first | rfl | exact ret_int (by omega), (b0.trans b1).trans (Bw.drawn ⟨⟨_, rfl⟩⟩)⟩
  · have hp : pow2 3 = 8 := rfl
    rw [hp]
    have e1 : wrap64 (m * 8) = m * 8 := w64 (by omega) (by omega)
    have e2 : IntKind.i64.wrap (m * 8) = m * 8 := i64w (by omega) (by omega)
    have e3 : wrap64 (d + m * 8) = d + m * 8 := w64 (by omega) (by omega)
    have e4 : IntKind.i64.wrap (d + m * 8) = d + m * 8 := i64w (by omega) (by omega)
    have b1 := Bw.box1 (w.alloc (.cells #[.int .i64 s.ro, .slice (some ad) s.lv.length c0, .slice (some am) s.ms.length c1, .slice A2 s.ts.length c2, .slice (some ab) s.bd.length c3] 29)) (.cells #[.int .i64 k, .int .i64 3, .int .i64 q] 58)
    have y0 := box_cell (Bw.refl ((w.alloc (.cells #[.int .i64 s.ro, .slice (some ad) s.lv.length c0, .slice (some am) s.ms.length c1, .slice A2 s.ts.length c2, .slice (some ab) s.bd.length c3] 29)).alloc (.cells #[.int .i64 k, .int .i64 3, .int .i64 q] 58))) 0
    have y1 := box_cell (Bw.refl ((w.alloc (.cells #[.int .i64 s.ro, .slice (some ad) s.lv.length c0, .slice (some am) s.ms.length c1, .slice A2 s.ts.length c2, .slice (some ab) s.bd.length c3] 29)).alloc (.cells #[.int .i64 k, .int .i64 3, .int .i64 q] 58))) 1
    have y2 := box_cell (Bw.refl ((w.alloc (.cells #[.int .i64 s.ro, .slice (some ad) s.lv.length c0, .slice (some am) s.ms.length c1, .slice A2 s.ts.length c2, .slice (some ab) s.bd.length c3] 29)).alloc (.cells #[.int .i64 k, .int .i64 3, .int .i64 q] 58))) 2
    simp only [List.getElem?_toArray, List.getElem?_cons_zero, List.getElem?_cons_succ] at y0 y1 y2
    rw [show (w.alloc (.cells #[.int .i64 s.ro, .slice (some ad) s.lv.length c0, .slice (some am) s.ms.length c1, .slice A2 s.ts.length c2, .slice (some ab) s.bd.length c3] 29)).heap.size = w.heap.size + 1 by simp] at y0 y1 y2
    have g0' := pw_cell_below b1.out g0
    have g1' := pw_cell_below b1.out g1
    have g2' := pw_cell_below b1.out g2
    have g3' := pw_cell_below b1.out g3
    have g4' := pw_cell_below b1.out g4
    have m0' := pw_cell_below b1.out m0
    have d0' := pw_cell_below b1.out d0
    go_enter Try.func107, Try.ntmps107
    go_wp2
    go_quiet (fail)
    go_wp2
    go_ret
    exact ⟨by first | rfl | exact ret_int (by omega), (b0.trans b1).trans (Bw.drawn ⟨⟨_, rfl⟩⟩)⟩
  · have hp : pow2 4 = 16 := rfl
    rw [hp]
    have e1 : wrap64 (m * 16) = m * 16 := w64 (by omega) (by omega)
    have e2 : IntKind.i64.wrap (m * 16) = m * 16 := i64w (by omega) (by omega)
    have e3 : wrap64 (d + m * 16) = d + m * 16 := w64 (by omega) (by omega)
    have e4 : IntKind.i64.wrap (d + m * 16) = d + m * 16 := i64w (by omega) (by omega)
    have b1 := Bw.box1 (w.alloc (.cells #[.int .i64 s.ro, .slice (some ad) s.lv.length c0, .slice (some am) s.ms.length c1, .slice A2 s.ts.length c2, .slice (some ab) s.bd.length c3] 29)) (.cells #[.int .i64 k, .int .i64 4, .int .i64 q] 58)
    have y0 := box_cell (Bw.refl ((w.alloc (.cells #[.int .i64 s.ro, .slice (some ad) s.lv.length c0, .slice (some am) s.ms.length c1, .slice A2 s.ts.length c2, .slice (some ab) s.bd.length c3] 29)).alloc (.cells #[.int .i64 k, .int .i64 4, .int .i64 q] 58))) 0
    have y1 := box_cell (Bw.refl ((w.alloc (.cells #[.int .i64 s.ro, .slice (some ad) s.lv.length c0, .slice (some am) s.ms.length c1, .slice A2 s.ts.length c2, .slice (some ab) s.bd.length c3] 29)).alloc (.cells #[.int .i64 k, .int .i64 4, .int .i64 q] 58))) 1
    have y2 := box_cell (Bw.refl ((w.alloc (.cells #[.int .i64 s.ro, .slice (some ad) s.lv.length c0, .slice (some am) s.ms.length c1, .slice A2 s.ts.length c2, .slice (some ab) s.bd.length c3] 29)).alloc (.cells #[.int .i64 k, .int .i64 4, .int .i64 q] 58))) 2
    simp only [List.getElem?_toArray, List.getElem?_cons_zero, List.getElem?_cons_succ] at y0 y1 y2
    rw [show (w.alloc (.cells #[.int .i64 s.ro, .slice (some ad) s.lv.length c0, .slice (some am) s.ms.length c1, .slice A2 s.ts.length c2, .slice (some ab) s.bd.length c3] 29)).heap.size = w.heap.size + 1 by simp] at y0 y1 y2
    have g0' := pw_cell_below b1.out g0
    have g1' := pw_cell_below b1.out g1
    have g2' := pw_cell_below b1.out g2
    have g3' := pw_cell_below b1.out g3
    have g4' := pw_cell_below b1.out g4
    have m0' := pw_cell_below b1.out m0
    have d0' := pw_cell_below b1.out d0
    go_enter Try.func107, Try.ntmps107
    go_wp2
    go_quiet (fail)
    go_wp2
    go_ret
    exact ⟨by first | rfl | exact ret_int (by omega), (b0.trans b1).trans (Bw.drawn ⟨⟨_, rfl⟩⟩)⟩
end Go.Proofs.Ytaidbdogolhnjaa.U
set_option linter.unusedVariables false
set_option linter.unusedSimpArgs false
namespace Go.Proofs.Ytaidbdogolhnjaa.U
open Go.RowKit Go.Lib Go.Proofs.YtaidbdogolhnjaaW.PrintWords

open Go.Proofs.YtaidbdogolhnjaaW.PrintLast Go.Proofs.YtaidbdogolhnjaaW.PrintMore
theorem make_lit (m : Nat) (hm : m ≤ 16) (cs : Array Value) (hc : madeCells #[.int .i64 0] (m * 1) = cs) : ∀ W : World, (Instr.makeSlice 27 (.int .i64 (m : Int)) (.int .i64 (m : Int))).run Try.prog W = .ok (.slice (some ⟨W.heap.size, 0, none⟩) m m) (W.alloc (.cells cs 3)) := fun W => by
  have h := make_st (P := Try.prog) 27 3 (.int .i64 0) 1 8 Try.underlying27 info_int m (by omega) (by omega) W
  rw [h, ← hc]
  rfl
theorem impl_has (ro : Int) (A : Option Addr) (n c : Nat) (k : Int) (w : World) (hn : n ≤ 9223372036854775807) :
    Calls Try.prog 56 #[.agg #[.int .i64 ro, .slice A n c], .int .i64 k] w fun e w' => e = .returned (.bool (inR k 0 ((n : Int) - 1))) ∧ Bw w w' := by
  have b0 := Bw.box1 w (.cells #[.int .i64 ro, .slice A n c] 26)
  have e1 : wrap64 ((n : Int) - 1) = (n : Int) - 1 := w64 (by omega) (by omega)
  have e2 : IntKind.i64.wrap ((n : Int) - 1) = (n : Int) - 1 := i64w (by omega) (by omega)
  go_enter Try.func56, Try.ntmps56
  go_wp2_with fail
  refine (within k 0 ((n : Int) - 1) _).mono ?_
  rintro e w1 ⟨rfl, rfl⟩
  go_wp2
  go_ret
  exact ⟨rfl, b0⟩
/-- what is known of the neighbour k -/
def ghost (s : Sta) (k : Int) : List Int := if 0 ≤ k ∧ k < s.lv.length then [1, (gc s.lv k.toNat).l, rd s.ms k, surf s k.toNat] else [0, 0, 0, 0]
theorem ghost_len (s : Sta) (k : Int) : (ghost s k).length = 4 := by
  unfold ghost
  split <;> rfl
end Go.Proofs.Ytaidbdogolhnjaa.U
set_option linter.unusedVariables false
set_option linter.unusedSimpArgs false
namespace Go.Proofs.Ytaidbdogolhnjaa.U
open Go.RowKit Go.Lib Go.Proofs.YtaidbdogolhnjaaW.PrintWords

open Go.Proofs.YtaidbdogolhnjaaW.PrintLast Go.Proofs.YtaidbdogolhnjaaW.PrintMore
/-- a cut of a slice of cells -/
theorem IdR.mid (A : Option Addr) (n c : Nat) (l : List Ce) (hl : l.length = n) (hc : n ≤ c) (a b : Nat) (h1 : a ≤ b) (h2 : b ≤ n) :
    ∃ A' c', (∀ W : World, (Instr.slice 24 (.slice A n c) (some (.int .i64 (a : Int))) (some (.int .i64 (b : Int))) none).run Try.prog W = .ok (.slice A' (b - a) c') W) ∧ (∀ w, IdR w A n l → IdR w A' (b - a) ((l.take b).drop a)) ∧ b - a ≤ c' := by
  subst hl
  obtain ⟨i0, hi, hz0, hz1, hz2⟩ := info_parts info_id
  have h3 := cut_mid (P := Try.prog) 24 58 .i64 .i64 Try.underlying24 hi 3 hz1 A l.length c (a : Int) (b : Int) (by omega) (by omega) (by omega) hc
  simp only [Int.toNat_natCast] at h3
  refine ⟨_, _, h3, fun w r => ?_, by omega⟩
  have h := Kd.C_mid (k := kCe) (w := w) (A := A) (xs := l) r.out h1 h2 hc
  rw [show ((l.take b).drop a).length = b - a by rw [List.length_drop, List.length_take]; omega] at h
  exact ⟨h⟩
theorem RI.midN (A : Option Addr) (n c : Nat) (l : List Int) (hl : l.length = n) (hc : n ≤ c) (a b : Nat) (h1 : a ≤ b) (h2 : b ≤ n) :
    ∃ A' c', (∀ W : World, (Instr.slice 27 (.slice A n c) (some (.int .i64 (a : Int))) (some (.int .i64 (b : Int))) none).run Try.prog W = .ok (.slice A' (b - a) c') W) ∧ (∀ w, RI w A n l → RI w A' (b - a) ((l.take b).drop a)) ∧ b - a ≤ c' := by
  subst hl
  obtain ⟨i0, hi, hz0, hz1, hz2⟩ := info_parts info_int
  obtain ⟨A', h3, h4, h5⟩ := print_mid_int (P := Try.prog) (k := .i64) 27 3 Try.underlying27 hi hz1 A c l (a : Int) (b : Int) (by omega) (by omega) (by omega) hc
  simp only [Int.toNat_natCast] at h3 h4 h5
  have e : ((l.take b).drop a).length = b - a := by rw [List.length_drop, List.length_take]; omega
  rw [e] at h3 h4 h5
  exact ⟨A', _, h3, fun w r => ⟨h4 w r.out⟩, h5⟩
/-- a state is read at x, its slices with their room -/
def StC (w : World) (x : Value) (s : Sta) : Prop := ∃ (A0 : Option Addr) (c0 : Nat) (A1 : Option Addr) (c1 : Nat) (A2 : Option Addr) (c2 : Nat) (A3 : Option Addr) (c3 : Nat), x = .agg #[.int .i64 s.ro, .slice A0 s.lv.length c0, .slice A1 s.ms.length c1, .slice A2 s.ts.length c2, .slice A3 s.bd.length c3] ∧ IdR w A0 s.lv.length s.lv ∧ RI w A1 s.ms.length s.ms ∧ RI w A2 s.ts.length s.ts ∧ RI w A3 s.bd.length s.bd ∧ s.lv.length ≤ c0 ∧ s.ms.length ≤ c1 ∧ s.ts.length ≤ c2 ∧ s.bd.length ≤ c3
theorem StC.to {w w' : World} {x : Value} {s : Sta} (h : StC w x s) (b : Bw w w') : StC w' x s := by
  obtain ⟨A0, c0, A1, c1, A2, c2, A3, c3, rfl, r0, r1, r2, r3, k⟩ := h
  exact ⟨A0, c0, A1, c1, A2, c2, A3, c3, rfl, r0.to b, r1.to b, r2.to b, r3.to b, k⟩
theorem StC.r {w : World} {x : Value} {s : Sta} (h : StC w x s) : StR w x s := by
  obtain ⟨A0, c0, A1, c1, A2, c2, A3, c3, rfl, r0, r1, r2, r3, k⟩ := h
  exact ⟨A0, c0, A1, c1, A2, c2, A3, c3, rfl, r0, r1, r2, r3⟩
theorem StO.c {w : World} {lo hi : Nat} {x : Value} {s : Sta} (h : StO w lo hi x s) : StC w x s := by
  obtain ⟨vl, vm, vt, vb, rfl, h1, h2, h3, h4, _⟩ := h
  obtain ⟨A0, c0, rfl, k0, f0⟩ := h1.reads
  obtain ⟨A1, c1, rfl, k1, f1⟩ := h2.reads
  obtain ⟨A2, c2, rfl, k2, f2⟩ := h3.reads
  obtain ⟨A3, c3, rfl, k3, f3⟩ := h4.reads
  exact ⟨A0, c0, A1, c1, A2, c2, A3, c3, rfl, f0.id, f1.ri, f2.ri, f3.ri, k0, k1, k2, k3⟩
end Go.Proofs.Ytaidbdogolhnjaa.U
