
/- States in the laws: comparison, marks. -/
import Derived.Test.YtpgdemclfheimaaJv
set_option linter.unusedVariables false
set_option linter.unusedSimpArgs false
namespace Go.Proofs.Ytpgdemclfheimaa.U
open Go.RowKit Go.Lib Go.Proofs.YtpgdemclfheimaaW.PrintWords

theorem eqMesh_yes (ro : Int) (A : Option Addr) (n c : Nat) (B : Option Addr) (d : Nat) (l : List Ce) (w : World) (r : IdR w A n l) (q : IdR w B n l) :
    Calls Try.prog 39 #[.agg #[.int .i64 ro, .slice A n c], .agg #[.int .i64 ro, .slice B n d]] w fun e w' => e = .returned (.bool true) ∧ Bw w w' := by
  have b0 := (Bw.box1 w (.cells #[.int .i64 ro, .slice A n c] 26)).alloc (.cells #[.int .i64 ro, .slice B n d] 26)
  have t1 : (ro != ro) = false := by simp
  go_enter Try.func39, Try.ntmps39
  go_wp2_with fail
  refine (eqIdS_yes A n c B d l _ (r.to b0) (q.to b0)).mono ?_
  rintro e w1 ⟨rfl, b1⟩
  go_wp2
  go_ret
  exact ⟨rfl, b0.trans b1⟩
/-- a state is read at x -/
def StR (w : World) (x : Value) (s : Sta) : Prop := ∃ (A0 : Option Addr) (c0 : Nat) (A1 : Option Addr) (c1 : Nat) (A2 : Option Addr) (c2 : Nat) (A3 : Option Addr) (c3 : Nat), x = .agg #[.int .i64 s.ro, .slice A0 s.lv.length c0, .slice A1 s.ms.length c1, .slice A2 s.ts.length c2, .slice A3 s.bd.length c3] ∧ IdR w A0 s.lv.length s.lv ∧ RI w A1 s.ms.length s.ms ∧ RI w A2 s.ts.length s.ts ∧ RI w A3 s.bd.length s.bd
theorem StR.to {w w' : World} {x : Value} {s : Sta} (h : StR w x s) (b : Bw w w') : StR w' x s := by
  obtain ⟨A0, c0, A1, c1, A2, c2, A3, c3, rfl, r0, r1, r2, r3⟩ := h
  exact ⟨A0, c0, A1, c1, A2, c2, A3, c3, rfl, r0.to b, r1.to b, r2.to b, r3.to b⟩
theorem StO.r {w : World} {lo hi : Nat} {x : Value} {s : Sta} (h : StO w lo hi x s) : StR w x s := by
  obtain ⟨vl, vm, vt, vb, rfl, h1, h2, h3, h4, _⟩ := h
  obtain ⟨A0, c0, rfl, _, f0⟩ := h1.reads
  obtain ⟨A1, c1, rfl, _, f1⟩ := h2.reads
  obtain ⟨A2, c2, rfl, _, f2⟩ := h3.reads
  obtain ⟨A3, c3, rfl, _, f3⟩ := h4.reads
  exact ⟨A0, c0, A1, c1, A2, c2, A3, c3, rfl, f0.id, f1.ri, f2.ri, f3.ri⟩
set_option maxHeartbeats 4000000 in
set_option maxRecDepth 100000 in
theorem eqState_yes (x y : Value) (s : Sta) (w : World) (hx : StR w x s) (hy : StR w y s) :
    Calls Try.prog 12 #[x, y] w fun e w' => e = .returned (.bool true) ∧ Bw w w' := by
  obtain ⟨A0, c0, A1, c1, A2, c2, A3, c3, rfl, r0, r1, r2, r3⟩ := hx
  obtain ⟨B0, d0, B1, d1, B2, d2, B3, d3, rfl, q0, q1, q2, q3⟩ := hy
  have g0 := box_cell ((Bw.refl (w.alloc (.cells #[.int .i64 s.ro, .slice A0 s.lv.length c0, .slice A1 s.ms.length c1, .slice A2 s.ts.length c2, .slice A3 s.bd.length c3] 29))).alloc (.cells #[.int .i64 s.ro, .slice B0 s.lv.length d0, .slice B1 s.ms.length d1, .slice B2 s.ts.length d2, .slice B3 s.bd.length d3] 29)) 0
  have g1 := box_cell ((Bw.refl (w.alloc (.cells #[.int .i64 s.ro, .slice A0 s.lv.length c0, .slice A1 s.ms.length c1, .slice A2 s.ts.length c2, .slice A3 s.bd.length c3] 29))).alloc (.cells #[.int .i64 s.ro, .slice B0 s.lv.length d0, .slice B1 s.ms.length d1, .slice B2 s.ts.length d2, .slice B3 s.bd.length d3] 29)) 1
  have g2 := box_cell ((Bw.refl (w.alloc (.cells #[.int .i64 s.ro, .slice A0 s.lv.length c0, .slice A1 s.ms.length c1, .slice A2 s.ts.length c2, .slice A3 s.bd.length c3] 29))).alloc (.cells #[.int .i64 s.ro, .slice B0 s.lv.length d0, .slice B1 s.ms.length d1, .slice B2 s.ts.length d2, .slice B3 s.bd.length d3] 29)) 2
  have g3 := box_cell ((Bw.refl (w.alloc (.cells #[.int .i64 s.ro, .slice A0 s.lv.length c0, .slice A1 s.ms.length c1, .slice A2 s.ts.length c2, .slice A3 s.bd.length c3] 29))).alloc (.cells #[.int .i64 s.ro, .slice B0 s.lv.length d0, .slice B1 s.ms.length d1, .slice B2 s.ts.length d2, .slice B3 s.bd.length d3] 29)) 3
  have g4 := box_cell ((Bw.refl (w.alloc (.cells #[.int .i64 s.ro, .slice A0 s.lv.length c0, .slice A1 s.ms.length c1, .slice A2 s.ts.length c2, .slice A3 s.bd.length c3] 29))).alloc (.cells #[.int .i64 s.ro, .slice B0 s.lv.length d0, .slice B1 s.ms.length d1, .slice B2 s.ts.length d2, .slice B3 s.bd.length d3] 29)) 4
  have k0 := box_cell (Bw.refl ((w.alloc (.cells #[.int .i64 s.ro, .slice A0 s.lv.length c0, .slice A1 s.ms.length c1, .slice A2 s.ts.length c2, .slice A3 s.bd.length c3] 29)).alloc (.cells #[.int .i64 s.ro, .slice B0 s.lv.length d0, .slice B1 s.ms.length d1, .slice B2 s.ts.length d2, .slice B3 s.bd.length d3] 29))) 0
  have k1 := box_cell (Bw.refl ((w.alloc (.cells #[.int .i64 s.ro, .slice A0 s.lv.length c0, .slice A1 s.ms.length c1, .slice A2 s.ts.length c2, .slice A3 s.bd.length c3] 29)).alloc (.cells #[.int .i64 s.ro, .slice B0 s.lv.length d0, .slice B1 s.ms.length d1, .slice B2 s.ts.length d2, .slice B3 s.bd.length d3] 29))) 1
  have k2 := box_cell (Bw.refl ((w.alloc (.cells #[.int .i64 s.ro, .slice A0 s.lv.length c0, .slice A1 s.ms.length c1, .slice A2 s.ts.length c2, .slice A3 s.bd.length c3] 29)).alloc (.cells #[.int .i64 s.ro, .slice B0 s.lv.length d0, .slice B1 s.ms.length d1, .slice B2 s.ts.length d2, .slice B3 s.bd.length d3] 29))) 2
  have k3 := box_cell (Bw.refl ((w.alloc (.cells #[.int .i64 s.ro, .slice A0 s.lv.length c0, .slice A1 s.ms.length c1, .slice A2 s.ts.length c2, .slice A3 s.bd.length c3] 29)).alloc (.cells #[.int .i64 s.ro, .slice B0 s.lv.length d0, .slice B1 s.ms.length d1, .slice B2 s.ts.length d2, .slice B3 s.bd.length d3] 29))) 3
  have k4 := box_cell (Bw.refl ((w.alloc (.cells #[.int .i64 s.ro, .slice A0 s.lv.length c0, .slice A1 s.ms.length c1, .slice A2 s.ts.length c2, .slice A3 s.bd.length c3] 29)).alloc (.cells #[.int .i64 s.ro, .slice B0 s.lv.length d0, .slice B1 s.ms.length d1, .slice B2 s.ts.length d2, .slice B3 s.bd.length d3] 29))) 4
  simp only [List.getElem?_toArray, List.getElem?_cons_zero, List.getElem?_cons_succ] at g0 g1 g2 g3 g4 k0 k1 k2 k3 k4
  rw [show (w.alloc (.cells #[.int .i64 s.ro, .slice A0 s.lv.length c0, .slice A1 s.ms.length c1, .slice A2 s.ts.length c2, .slice A3 s.bd.length c3] 29)).heap.size = w.heap.size + 1 by simp] at k0 k1 k2 k3 k4
  have b0 := (Bw.box1 w (.cells #[.int .i64 s.ro, .slice A0 s.lv.length c0, .slice A1 s.ms.length c1, .slice A2 s.ts.length c2, .slice A3 s.bd.length c3] 29)).alloc (.cells #[.int .i64 s.ro, .slice B0 s.lv.length d0, .slice B1 s.ms.length d1, .slice B2 s.ts.length d2, .slice B3 s.bd.length d3] 29)
  go_enter Try.func12, Try.ntmps12
  go_wp2_with fail
  refine (eqMesh_yes s.ro A0 s.lv.length c0 B0 d0 s.lv _ (r0.to b0) (q0.to b0)).mono ?_
  rintro e w1 ⟨rfl, b1⟩
  replace g0 := pw_cell_below b1.out g0
  replace g1 := pw_cell_below b1.out g1
  replace g2 := pw_cell_below b1.out g2
  replace g3 := pw_cell_below b1.out g3
  replace g4 := pw_cell_below b1.out g4
  replace k0 := pw_cell_below b1.out k0
  replace k1 := pw_cell_below b1.out k1
  replace k2 := pw_cell_below b1.out k2
  replace k3 := pw_cell_below b1.out k3
  replace k4 := pw_cell_below b1.out k4
  replace b0 := b0.trans b1
  clear b1
  go_wp2_with fail
  refine (eqIntS A1 s.ms.length c1 s.ms B1 s.ms.length d1 s.ms _ (r1.to b0) (q1.to b0)).mono ?_
  rintro e w1 ⟨rfl, dd1⟩
  have b1 := Bw.drawn dd1
  rw [decide_eq_true (rfl : s.ms = s.ms)]
  replace g0 := pw_cell_below b1.out g0
  replace g1 := pw_cell_below b1.out g1
  replace g2 := pw_cell_below b1.out g2
  replace g3 := pw_cell_below b1.out g3
  replace g4 := pw_cell_below b1.out g4
  replace k0 := pw_cell_below b1.out k0
  replace k1 := pw_cell_below b1.out k1
  replace k2 := pw_cell_below b1.out k2
  replace k3 := pw_cell_below b1.out k3
  replace k4 := pw_cell_below b1.out k4
  replace b0 := b0.trans b1
  clear b1 dd1
  go_wp2_with fail
  refine (eqIntS A2 s.ts.length c2 s.ts B2 s.ts.length d2 s.ts _ (r2.to b0) (q2.to b0)).mono ?_
  rintro e w1 ⟨rfl, dd1⟩
  have b1 := Bw.drawn dd1
  rw [decide_eq_true (rfl : s.ts = s.ts)]
  replace g0 := pw_cell_below b1.out g0
  replace g1 := pw_cell_below b1.out g1
  replace g2 := pw_cell_below b1.out g2
  replace g3 := pw_cell_below b1.out g3
  replace g4 := pw_cell_below b1.out g4
  replace k0 := pw_cell_below b1.out k0
  replace k1 := pw_cell_below b1.out k1
  replace k2 := pw_cell_below b1.out k2
  replace k3 := pw_cell_below b1.out k3
  replace k4 := pw_cell_below b1.out k4
  replace b0 := b0.trans b1
  clear b1 dd1
  go_wp2_with fail
  refine (eqIntS A3 s.bd.length c3 s.bd B3 s.bd.length d3 s.bd _ (r3.to b0) (q3.to b0)).mono ?_
  rintro e w1 ⟨rfl, dd1⟩
  have b1 := Bw.drawn dd1
  rw [decide_eq_true (rfl : s.bd = s.bd)]
  replace g0 := pw_cell_below b1.out g0
  replace g1 := pw_cell_below b1.out g1
  replace g2 := pw_cell_below b1.out g2
  replace g3 := pw_cell_below b1.out g3
  replace g4 := pw_cell_below b1.out g4
  replace k0 := pw_cell_below b1.out k0
  replace k1 := pw_cell_below b1.out k1
  replace k2 := pw_cell_below b1.out k2
  replace k3 := pw_cell_below b1.out k3
  replace k4 := pw_cell_below b1.out k4
  replace b0 := b0.trans b1
  clear b1 dd1
  go_wp2
  go_ret
  exact ⟨rfl, b0⟩
/-- how many marks a state has -/
def stz (s : Sta) : Nat := s.lv.length * 3 + s.ms.length + s.ts.length + s.bd.length
/-- a state's marks, from a on -/
def mkS (s : Sta) (a : Int) : Sta := ⟨s.ro, unC (iota (s.lv.length * 3) a), iota s.ms.length (a + (s.lv.length * 3 : Nat)), iota s.ts.length (a + (s.lv.length * 3 : Nat) + (s.ms.length : Nat)), iota s.bd.length (a + (s.lv.length * 3 : Nat) + (s.ms.length : Nat) + (s.ts.length : Nat))⟩
theorem unC_length : ∀ (n : Nat) (l : List Int), l.length = n * 3 → (unC l).length = n := fun n l h => by
  have h1 := idF_length (unC l)
  rw [idF_unC n l h, h] at h1
  omega
theorem markMesh (ro : Int) (v : Value) (n : Nat) (F : List Int) (a r : Int) (w : World) (lo hi : Nat) (h : Rw w lo hi 84 3 v n F) (hn : n ≤ 1048576) (h0 : 0 ≤ a) (ha : a ≤ 1000000000000) (hr : a + (n * 3 : Nat) = r) :
    Calls Try.prog 42 #[.agg #[.int .i64 ro, v], .int .i64 a] w fun e w' => e = .returned (.int .i64 r) ∧ Rw w' lo hi 84 3 v n (iota (n * 3) a) ∧ Wi w w' lo hi ∧ (∀ {t k m : Nat} {u : Value} {G : List Int}, Rw w lo hi t k u m G → Apart u v → Rw w' lo hi t k u m G) := by
  obtain ⟨A, c, rfl, _, _⟩ := h.reads
  have b0 := Bw.box1 w (.cells #[.int .i64 ro, .slice A n c] 26)
  go_enter Try.func42, Try.ntmps42
  go_wp2_with fail
  refine (markRowI (.slice A n c) n F a r _ lo hi (h.to b0) hn h0 ha hr).mono ?_
  rintro e w1 ⟨rfl, S, hg⟩
  have cg := S.chg' (h.to b0) hg
  have HG := hid hg
  clear hg
  go_wp2
  go_ret
  exact ⟨rfl, S, (b0.wi lo hi).trans cg, fun hR ap => (hR.to b0).grown HG.out ap⟩
set_option maxHeartbeats 4000000 in
set_option maxRecDepth 100000 in
theorem markState (x : Value) (s : Sta) (a r : Int) (w : World) (lo hi : Nat) (h : StO w lo hi x s) (hh : hi ≤ w.heap.size) (hs : s.lv.length + s.ms.length + s.ts.length + s.bd.length ≤ 1048576) (h0 : 0 ≤ a) (ha : a ≤ 1000000000) (hr : a + (stz s : Nat) = r) :
    Calls Try.prog 15 #[x, .int .i64 a] w fun e w' => e = .returned (.int .i64 r) ∧ StO w' lo hi x (mkS s a) ∧ Wi w w' lo hi := by
  obtain ⟨vl, vm, vt, vb, rfl, R0, R1, R2, R3, ap_lm, ap_lt, ap_lb, ap_mt, ap_mb, ap_tb⟩ := h
  obtain ⟨A0, c0, rfl, _, _⟩ := R0.reads
  obtain ⟨A1, c1, rfl, _, _⟩ := R1.reads
  obtain ⟨A2, c2, rfl, _, _⟩ := R2.reads
  obtain ⟨A3, c3, rfl, _, _⟩ := R3.reads
  have b0 := Bw.box1 w (.cells #[.int .i64 s.ro, .slice A0 s.lv.length c0, .slice A1 s.ms.length c1, .slice A2 s.ts.length c2, .slice A3 s.bd.length c3] 29)
  replace R0 := R0.to b0
  replace R1 := R1.to b0
  replace R2 := R2.to b0
  replace R3 := R3.to b0
  have CW := b0.wi lo hi
  clear b0
  obtain ⟨p1, e1⟩ : ∃ p1, Hid (a + (s.lv.length * 3 : Nat) = p1) := ⟨_, hid rfl⟩
  obtain ⟨p2, e2⟩ : ∃ p2, Hid (p1 + (s.ms.length : Nat) = p2) := ⟨_, hid rfl⟩
  obtain ⟨p3, e3⟩ : ∃ p3, Hid (p2 + (s.ts.length : Nat) = p3) := ⟨_, hid rfl⟩
  obtain ⟨p4, e4⟩ : ∃ p4, Hid (p3 + (s.bd.length : Nat) = p4) := ⟨_, hid rfl⟩
  have hb : s.lv.length * 3 + s.ms.length + s.ts.length + s.bd.length ≤ 4000000 := by omega
  have hb2 : s.lv.length + s.ms.length + s.ts.length + s.bd.length ≤ 1048576 := hs
  have hp : (0 ≤ p1 ∧ p1 ≤ 2000000000) ∧ (0 ≤ p2 ∧ p2 ≤ 2000000000) ∧ (0 ≤ p3 ∧ p3 ≤ 2000000000) ∧ p4 = r := by
    have := e1.out; have := e2.out; have := e3.out; have := e4.out
    have h5 : stz s = s.lv.length * 3 + s.ms.length + s.ts.length + s.bd.length := rfl
    rw [h5] at hr
    omega
  have hmk : Hid (mkS s a = ⟨s.ro, unC (iota (s.lv.length * 3) a), iota s.ms.length p1, iota s.ts.length p2, iota s.bd.length p3⟩) := hid (by rw [mkS, ← e3.out, ← e2.out, ← e1.out])
  have hpr := hid hp.2.2.2
  have hq : (0 ≤ p1 ∧ p1 ≤ 2000000000) ∧ (0 ≤ p2 ∧ p2 ≤ 2000000000) ∧ (0 ≤ p3 ∧ p3 ≤ 2000000000) := ⟨hp.1, hp.2.1, hp.2.2.1⟩
  clear hp hr hs
  have g0 := box_cell (Bw.refl (w.alloc (.cells #[.int .i64 s.ro, .slice A0 s.lv.length c0, .slice A1 s.ms.length c1, .slice A2 s.ts.length c2, .slice A3 s.bd.length c3] 29))) 0
  have g1 := box_cell (Bw.refl (w.alloc (.cells #[.int .i64 s.ro, .slice A0 s.lv.length c0, .slice A1 s.ms.length c1, .slice A2 s.ts.length c2, .slice A3 s.bd.length c3] 29))) 1
  have g2 := box_cell (Bw.refl (w.alloc (.cells #[.int .i64 s.ro, .slice A0 s.lv.length c0, .slice A1 s.ms.length c1, .slice A2 s.ts.length c2, .slice A3 s.bd.length c3] 29))) 2
  have g3 := box_cell (Bw.refl (w.alloc (.cells #[.int .i64 s.ro, .slice A0 s.lv.length c0, .slice A1 s.ms.length c1, .slice A2 s.ts.length c2, .slice A3 s.bd.length c3] 29))) 3
  have g4 := box_cell (Bw.refl (w.alloc (.cells #[.int .i64 s.ro, .slice A0 s.lv.length c0, .slice A1 s.ms.length c1, .slice A2 s.ts.length c2, .slice A3 s.bd.length c3] 29))) 4
  simp only [List.getElem?_toArray, List.getElem?_cons_zero, List.getElem?_cons_succ] at g0 g1 g2 g3 g4
  go_enter Try.func15, Try.ntmps15
  go_wp2_with fail
  generalize (w.alloc (.cells #[.int .i64 s.ro, .slice A0 s.lv.length c0, .slice A1 s.ms.length c1, .slice A2 s.ts.length c2, .slice A3 s.bd.length c3] 29)) = w1 at *
  refine (markMesh s.ro (.slice A0 s.lv.length c0) s.lv.length _ a p1 _ lo hi R0 (by omega) (by omega) (by omega) e1.out).mono ?_
  rintro e_ w3 ⟨rfl, S0, hg, bM⟩
  have cg := hg
  replace R1 := bM R1 ap_lm.flip
  replace R2 := bM R2 ap_lt.flip
  replace R3 := bM R3 ap_lb.flip
  replace g0 := cell_wi cg g0 (by show ¬ (lo ≤ w.heap.size ∧ w.heap.size < hi); omega)
  replace g1 := cell_wi cg g1 (by show ¬ (lo ≤ w.heap.size ∧ w.heap.size < hi); omega)
  replace g2 := cell_wi cg g2 (by show ¬ (lo ≤ w.heap.size ∧ w.heap.size < hi); omega)
  replace g3 := cell_wi cg g3 (by show ¬ (lo ≤ w.heap.size ∧ w.heap.size < hi); omega)
  replace g4 := cell_wi cg g4 (by show ¬ (lo ≤ w.heap.size ∧ w.heap.size < hi); omega)
  replace CW := CW.trans cg
  clear hg cg R0
  go_wp2_with fail
  refine (markRowN (.slice A1 s.ms.length c1) s.ms.length _ p1 p2 _ lo hi R1 (by omega) (by omega) (by omega) e2.out).mono ?_
  rintro e_ w3 ⟨rfl, S1, hg⟩
  have cg := S1.chg' R1 hg
  replace S0 := S0.grown hg ap_lm
  replace R2 := R2.grown hg ap_mt.flip
  replace R3 := R3.grown hg ap_mb.flip
  replace g0 := cell_wi cg g0 (by show ¬ (lo ≤ w.heap.size ∧ w.heap.size < hi); omega)
  replace g1 := cell_wi cg g1 (by show ¬ (lo ≤ w.heap.size ∧ w.heap.size < hi); omega)
  replace g2 := cell_wi cg g2 (by show ¬ (lo ≤ w.heap.size ∧ w.heap.size < hi); omega)
  replace g3 := cell_wi cg g3 (by show ¬ (lo ≤ w.heap.size ∧ w.heap.size < hi); omega)
  replace g4 := cell_wi cg g4 (by show ¬ (lo ≤ w.heap.size ∧ w.heap.size < hi); omega)
  replace CW := CW.trans cg
  clear hg cg R1
  go_wp2_with fail
  refine (markRowN (.slice A2 s.ts.length c2) s.ts.length _ p2 p3 _ lo hi R2 (by omega) (by omega) (by omega) e3.out).mono ?_
  rintro e_ w3 ⟨rfl, S2, hg⟩
  have cg := S2.chg' R2 hg
  replace S0 := S0.grown hg ap_lt
  replace S1 := S1.grown hg ap_mt
  replace R3 := R3.grown hg ap_tb.flip
  replace g0 := cell_wi cg g0 (by show ¬ (lo ≤ w.heap.size ∧ w.heap.size < hi); omega)
  replace g1 := cell_wi cg g1 (by show ¬ (lo ≤ w.heap.size ∧ w.heap.size < hi); omega)
  replace g2 := cell_wi cg g2 (by show ¬ (lo ≤ w.heap.size ∧ w.heap.size < hi); omega)
  replace g3 := cell_wi cg g3 (by show ¬ (lo ≤ w.heap.size ∧ w.heap.size < hi); omega)
  replace g4 := cell_wi cg g4 (by show ¬ (lo ≤ w.heap.size ∧ w.heap.size < hi); omega)
  replace CW := CW.trans cg
  clear hg cg R2
  go_wp2_with fail
  refine (markRowN (.slice A3 s.bd.length c3) s.bd.length _ p3 p4 _ lo hi R3 (by omega) (by omega) (by omega) e4.out).mono ?_
  rintro e_ w3 ⟨rfl, S3, hg⟩
  have cg := S3.chg' R3 hg
  replace S0 := S0.grown hg ap_lb
  replace S1 := S1.grown hg ap_mb
  replace S2 := S2.grown hg ap_tb
  replace g0 := cell_wi cg g0 (by show ¬ (lo ≤ w.heap.size ∧ w.heap.size < hi); omega)
  replace g1 := cell_wi cg g1 (by show ¬ (lo ≤ w.heap.size ∧ w.heap.size < hi); omega)
  replace g2 := cell_wi cg g2 (by show ¬ (lo ≤ w.heap.size ∧ w.heap.size < hi); omega)
  replace g3 := cell_wi cg g3 (by show ¬ (lo ≤ w.heap.size ∧ w.heap.size < hi); omega)
  replace g4 := cell_wi cg g4 (by show ¬ (lo ≤ w.heap.size ∧ w.heap.size < hi); omega)
  replace CW := CW.trans cg
  clear hg cg R3
  have HCW := hid CW
  have K0 := hid S0
  have K1 := hid S1
  have K2 := hid S2
  have K3 := hid S3
  clear CW S0 S1 S2 S3
  go_wp2
  go_ret
  refine ⟨ret_int hpr.out, ?_, HCW.out⟩
  rw [hmk.out]
  have hu : (iota (s.lv.length * 3) a).length = s.lv.length * 3 := iota_length _ _
  exact ⟨_, _, _, _, rfl, by rw [unC_length _ _ hu, idF_unC _ _ hu]; exact K0.out, by rw [iota_length]; exact K1.out, by rw [iota_length]; exact K2.out, by rw [iota_length]; exact K3.out, ap_lm, ap_lt, ap_lb, ap_mt, ap_mb, ap_tb⟩
theorem heldMesh (ro : Int) (A : Option Addr) (n c : Nat) (a r : Int) (w : World) (h : FR w 3 A n (iota (n * 3) a)) (hn : n ≤ 1048576) (h0 : 0 ≤ a) (ha : a ≤ 1000000000000) (hr : a + (n * 3 : Nat) = r) :
    Calls Try.prog 43 #[.agg #[.int .i64 ro, .slice A n c], .int .i64 a] w fun e w' => e = .returned (.int .i64 r) ∧ Bw w w' := by
  have b0 := Bw.box1 w (.cells #[.int .i64 ro, .slice A n c] 26)
  have hpos : decide (r < 0) = false := decide_eq_false (by omega)
  go_enter Try.func43, Try.ntmps43
  go_wp2_with fail
  refine (heldRowI A n c a r _ (h.to b0) hn h0 ha hr).mono ?_
  rintro e w1 ⟨rfl, rfl⟩
  go_wp2
  go_ret
  exact ⟨rfl, b0⟩
set_option maxHeartbeats 4000000 in
set_option maxRecDepth 100000 in
theorem heldState (x : Value) (s : Sta) (a r : Int) (w : World) (h : StR w x (mkS s a)) (hs : s.lv.length + s.ms.length + s.ts.length + s.bd.length ≤ 1048576) (h0 : 0 ≤ a) (ha : a ≤ 1000000000) (hr : a + (stz s : Nat) = r) :
    Calls Try.prog 16 #[x, .int .i64 a] w fun e w' => e = .returned (.int .i64 r) ∧ Bw w w' := by
  obtain ⟨A0, c0, A1, c1, A2, c2, A3, c3, rfl, r0, r1, r2, r3⟩ := h
  obtain ⟨p1, e1⟩ : ∃ p1, Hid (a + (s.lv.length * 3 : Nat) = p1) := ⟨_, hid rfl⟩
  obtain ⟨p2, e2⟩ : ∃ p2, Hid (p1 + (s.ms.length : Nat) = p2) := ⟨_, hid rfl⟩
  obtain ⟨p3, e3⟩ : ∃ p3, Hid (p2 + (s.ts.length : Nat) = p3) := ⟨_, hid rfl⟩
  obtain ⟨p4, e4⟩ : ∃ p4, Hid (p3 + (s.bd.length : Nat) = p4) := ⟨_, hid rfl⟩
  have hb : s.lv.length * 3 + s.ms.length + s.ts.length + s.bd.length ≤ 4000000 := by omega
  have hb2 : s.lv.length + s.ms.length + s.ts.length + s.bd.length ≤ 1048576 := hs
  have hp : (0 ≤ p1 ∧ p1 ≤ 2000000000) ∧ (0 ≤ p2 ∧ p2 ≤ 2000000000) ∧ (0 ≤ p3 ∧ p3 ≤ 2000000000) ∧ (0 ≤ p4 ∧ p4 ≤ 2000000000) ∧ p4 = r := by
    have := e1.out; have := e2.out; have := e3.out; have := e4.out
    have h5 : stz s = s.lv.length * 3 + s.ms.length + s.ts.length + s.bd.length := rfl
    rw [h5] at hr
    omega
  have hmk : mkS s a = ⟨s.ro, unC (iota (s.lv.length * 3) a), iota s.ms.length p1, iota s.ts.length p2, iota s.bd.length p3⟩ := by rw [mkS, ← e3.out, ← e2.out, ← e1.out]
  rw [hmk] at r0 r1 r2 r3
  have hu : (iota (s.lv.length * 3) a).length = s.lv.length * 3 := iota_length _ _
  have f0 := r0.fr
  simp only [iota_length, unC_length _ _ hu, idF_unC _ _ hu] at f0 r1 r2 r3
  rw [hmk]
  simp only [iota_length, unC_length _ _ hu]
  have hpr := hid hp.2.2.2.2
  have n1 : decide (p1 < 0) = false := decide_eq_false (by omega)
  have n2 : decide (p2 < 0) = false := decide_eq_false (by omega)
  have n3 : decide (p3 < 0) = false := decide_eq_false (by omega)
  have n4 : decide (p4 < 0) = false := decide_eq_false (by omega)
  have hq : (0 ≤ p1 ∧ p1 ≤ 2000000000) ∧ (0 ≤ p2 ∧ p2 ≤ 2000000000) ∧ (0 ≤ p3 ∧ p3 ≤ 2000000000) := ⟨hp.1, hp.2.1, hp.2.2.1⟩
  clear hp hr hs hmk hu r0
  have b0 := Bw.box1 w (.cells #[.int .i64 s.ro, .slice A0 s.lv.length c0, .slice A1 s.ms.length c1, .slice A2 s.ts.length c2, .slice A3 s.bd.length c3] 29)
  have g0 := box_cell (Bw.refl (w.alloc (.cells #[.int .i64 s.ro, .slice A0 s.lv.length c0, .slice A1 s.ms.length c1, .slice A2 s.ts.length c2, .slice A3 s.bd.length c3] 29))) 0
  have g1 := box_cell (Bw.refl (w.alloc (.cells #[.int .i64 s.ro, .slice A0 s.lv.length c0, .slice A1 s.ms.length c1, .slice A2 s.ts.length c2, .slice A3 s.bd.length c3] 29))) 1
  have g2 := box_cell (Bw.refl (w.alloc (.cells #[.int .i64 s.ro, .slice A0 s.lv.length c0, .slice A1 s.ms.length c1, .slice A2 s.ts.length c2, .slice A3 s.bd.length c3] 29))) 2
  have g3 := box_cell (Bw.refl (w.alloc (.cells #[.int .i64 s.ro, .slice A0 s.lv.length c0, .slice A1 s.ms.length c1, .slice A2 s.ts.length c2, .slice A3 s.bd.length c3] 29))) 3
  have g4 := box_cell (Bw.refl (w.alloc (.cells #[.int .i64 s.ro, .slice A0 s.lv.length c0, .slice A1 s.ms.length c1, .slice A2 s.ts.length c2, .slice A3 s.bd.length c3] 29))) 4
  simp only [List.getElem?_toArray, List.getElem?_cons_zero, List.getElem?_cons_succ] at g0 g1 g2 g3 g4
  go_enter Try.func16, Try.ntmps16
  go_wp2_with fail
  refine (heldMesh s.ro A0 s.lv.length c0 a p1 _ (f0.to b0) (by omega) (by omega) (by omega) e1.out).mono ?_
  rintro e_ w1 ⟨rfl, b1⟩
  replace g0 := pw_cell_below b1.out g0
  replace g1 := pw_cell_below b1.out g1
  replace g2 := pw_cell_below b1.out g2
  replace g3 := pw_cell_below b1.out g3
  replace g4 := pw_cell_below b1.out g4
  replace b0 := b0.trans b1
  clear b1
  go_wp2_with fail
  refine (heldRowN A1 s.ms.length c1 p1 p2 _ (r1.to b0) (by omega) (by omega) (by omega) e2.out).mono ?_
  rintro e_ w1 ⟨rfl, d1⟩
  have b1 := Bw.drawn d1
  replace g0 := pw_cell_below b1.out g0
  replace g1 := pw_cell_below b1.out g1
  replace g2 := pw_cell_below b1.out g2
  replace g3 := pw_cell_below b1.out g3
  replace g4 := pw_cell_below b1.out g4
  replace b0 := b0.trans b1
  clear b1 d1
  go_wp2_with fail
  refine (heldRowN A2 s.ts.length c2 p2 p3 _ (r2.to b0) (by omega) (by omega) (by omega) e3.out).mono ?_
  rintro e_ w1 ⟨rfl, d1⟩
  have b1 := Bw.drawn d1
  replace g0 := pw_cell_below b1.out g0
  replace g1 := pw_cell_below b1.out g1
  replace g2 := pw_cell_below b1.out g2
  replace g3 := pw_cell_below b1.out g3
  replace g4 := pw_cell_below b1.out g4
  replace b0 := b0.trans b1
  clear b1 d1
  go_wp2_with fail
  refine (heldRowN A3 s.bd.length c3 p3 p4 _ (r3.to b0) (by omega) (by omega) (by omega) e4.out).mono ?_
  rintro e_ w1 ⟨rfl, d1⟩
  have b1 := Bw.drawn d1
  replace g0 := pw_cell_below b1.out g0
  replace g1 := pw_cell_below b1.out g1
  replace g2 := pw_cell_below b1.out g2
  replace g3 := pw_cell_below b1.out g3
  replace g4 := pw_cell_below b1.out g4
  replace b0 := b0.trans b1
  clear b1 d1
  go_wp2
  go_ret
  exact ⟨ret_int hpr.out, b0⟩
end Go.Proofs.Ytpgdemclfheimaa.U
