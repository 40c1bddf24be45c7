
/- The law FnExactLocalFluxes, walked. -/
import Derived.Test.YtkhjkcefkampkaaNu
import Derived.Test.YtkhjkcefkampkaaTs
import Derived.Test.YtkhjkcefkampkaaLJoinViews
set_option linter.unusedVariables false
set_option linter.unusedSimpArgs false
namespace Go.Proofs.Ytkhjkcefkampkaa.U
open Go.RowKit Go.Lib Go.Proofs.YtkhjkcefkampkaaW.PrintWords
open Go.Proofs.YtkhjkcefkampkaaW.PrintLast Go.Proofs.YtkhjkcefkampkaaW.PrintMore
theorem Rw.rdI' {w : World} {lo hi n c : Nat} {A : Option Addr} {F : List Int} (h : Rw w lo hi 3 1 (.slice A n c) n F) : RI w A n F := (FO.fr h.o).ri
theorem toIntSz (A : Option Addr) (n c : Nat) (l : List Int) (w : World) (r : RI w A n l) (hn : n ≤ 1048576) :
  Calls Try.prog 50 #[.slice A n c] w fun e w' => ∃ (z : Nat) (X : Option Addr) (y : Nat), z = w.heap.size ∧ e = .returned (.slice X n y) ∧ Rw w' z w'.heap.size 3 1 (.slice X n y) n l ∧ Bw w w' := by
 refine (toIntS A n c l w r hn).mono ?_
 rintro e w' ⟨v, rfl, o, b⟩
 obtain ⟨X, y, rfl, _, _⟩ := FO.reads (t := 3) (k := 1) ⟨o.out⟩
 exact ⟨_, _, _, rfl, rfl, OI.rw o, b⟩
structure Vl where
 ro : Int
 fr : Int
 lv : List Ce
 ms : List Int
 ts : List Int
 bd : List Int
 gh : List Int
def Vl.f (v : Vl) : Vf := ⟨v.ro, v.fr, idF v.lv, v.ms, v.ts, v.bd, v.gh⟩
def VaR (w : World) (x : Value) (v : Vl) : Prop := ∃ (Al : Option Addr) (cl : Nat) (Am : Option Addr) (cm : Nat) (At : Option Addr) (ct : Nat) (Ab : Option Addr) (cb : Nat) (Ag : Option Addr) (cg : Nat), x = .agg #[.int .i64 v.ro, .int .i64 v.fr, .slice Al v.lv.length cl, .slice Am v.ms.length cm, .slice At v.ts.length ct, .slice Ab v.bd.length cb, .slice Ag v.gh.length cg] ∧ VA w Al v.lv.length Am v.ms.length At v.ts.length Ab v.bd.length Ag v.gh.length v.f ∧ v.gh.length ≤ cg
theorem VaR.to {w w' : World} {x : Value} {v : Vl} (h : VaR w x v) (b : Bw w w') : VaR w' x v := by
 obtain ⟨Al, cl, Am, cm, At, ct, Ab, cb, Ag, cg, rfl, r, hc⟩ := h
 exact ⟨Al, cl, Am, cm, At, ct, Ab, cb, Ag, cg, rfl, r.to b, hc⟩
def VaO (w : World) (lo hi : Nat) (x : Value) (v : Vl) : Prop := ∃ (vl vm vt vb vg : Value), x = .agg #[.int .i64 v.ro, .int .i64 v.fr, vl, vm, vt, vb, vg] ∧ Rw w lo hi 70 3 vl v.lv.length (idF v.lv) ∧ Rw w lo hi 3 1 vm v.ms.length v.ms ∧ Rw w lo hi 3 1 vt v.ts.length v.ts ∧ Rw w lo hi 3 1 vb v.bd.length v.bd ∧ Rw w lo hi 3 1 vg v.gh.length v.gh ∧ (Apart vl vm ∧ Apart vl vt ∧ Apart vl vb ∧ Apart vl vg ∧ Apart vm vt ∧ Apart vm vb ∧ Apart vm vg ∧ Apart vt vb ∧ Apart vt vg ∧ Apart vb vg)
theorem VaO.to {w w' : World} {lo hi : Nat} {x : Value} {v : Vl} (h : VaO w lo hi x v) (b : Bw w w') : VaO w' lo hi x v := by
 obtain ⟨vl, vm, vt, vb, vg, rfl, h1, h2, h3, h4, h5, ap⟩ := h
 exact ⟨vl, vm, vt, vb, vg, rfl, h1.to b, h2.to b, h3.to b, h4.to b, h5.to b, ap⟩
theorem VaO.wi {w w' : World} {lo hi lo' hi' : Nat} {x : Value} {v : Vl} (h : VaO w lo hi x v) (k : Wi w w' lo' hi') (hd : hi ≤ lo' ∨ hi' ≤ lo) : VaO w' lo hi x v := by
 obtain ⟨vl, vm, vt, vb, vg, rfl, h1, h2, h3, h4, h5, ap⟩ := h
 exact ⟨vl, vm, vt, vb, vg, rfl, h1.wi k hd, h2.wi k hd, h3.wi k hd, h4.wi k hd, h5.wi k hd, ap⟩
theorem VaO.r {w : World} {lo hi : Nat} {x : Value} {v : Vl} (h : VaO w lo hi x v) : VaR w x v := by
 obtain ⟨vl, vm, vt, vb, vg, rfl, h1, h2, h3, h4, h5, _⟩ := h
 obtain ⟨Al, cl, rfl, _, f0⟩ := h1.reads
 obtain ⟨Am, cm, rfl, _, f1⟩ := h2.reads
 obtain ⟨At, ct, rfl, _, f2⟩ := h3.reads
 obtain ⟨Ab, cb, rfl, _, f3⟩ := h4.reads
 obtain ⟨Ag, cg, rfl, hc, f4⟩ := h5.reads
 exact ⟨Al, cl, Am, cm, At, ct, Ab, cb, Ag, cg, rfl, ⟨f0, f1.ri, f2.ri, f3.ri, f4.ri⟩, hc⟩
def vlz (v : Vl) : Nat := v.lv.length + v.ms.length + v.ts.length + v.bd.length + v.gh.length
theorem szView' (x : Value) (v : Vl) (w : World) (hx : VaR w x v) :
  Calls Try.prog 15 #[x, .int .i64 1048576] w fun e w' => ∃ lf : Int, e = .returned (.int .i64 lf) ∧ (0 ≤ lf → vlz v ≤ 1048576) ∧ Bw w w' := by
 obtain ⟨Al, cl, Am, cm, At, ct, Ab, cb, Ag, cg, rfl, r, hc⟩ := hx
 have h0 : v.lv.length ≤ 9223372036854775807 := r.l.max
 have h1 : v.ms.length ≤ 9223372036854775807 := r.m.max
 have h2 : v.ts.length ≤ 9223372036854775807 := r.t.max
 have h3 : v.bd.length ≤ 9223372036854775807 := r.b.max
 have h4 : v.gh.length ≤ 9223372036854775807 := r.g.max
 refine (szView v.ro v.fr Al _ cl Am _ cm At _ ct Ab _ cb Ag _ cg 1048576 (vlz v) w h0 h1 h2 h3 h4 (by omega) rfl).mono ?_
 rintro e w' ⟨rfl, b⟩
 refine ⟨_, rfl, fun h => ?_, b⟩
 split at h
 ·omega
 ·omega
theorem toView' (x : Value) (v : Vl) (w : World) (hx : VaR w x v) (hn : vlz v ≤ 1048576) :
  Calls Try.prog 17 #[x] w fun e w' => ∃ (z : Nat) (Pl : Option Addr) (pl : Nat) (Pm : Option Addr) (pm : Nat) (Pt : Option Addr) (pt : Nat) (Pb : Option Addr) (pb : Nat) (Pg : Option Addr) (pg : Nat), z = w.heap.size ∧ e = .returned (.agg #[.int .i64 v.ro, .int .i64 v.fr, .slice Pl v.lv.length pl, .slice Pm v.ms.length pm, .slice Pt v.ts.length pt, .slice Pb v.bd.length pb, .slice Pg v.gh.length pg]) ∧ VaO w' z w'.heap.size (.agg #[.int .i64 v.ro, .int .i64 v.fr, .slice Pl v.lv.length pl, .slice Pm v.ms.length pm, .slice Pt v.ts.length pt, .slice Pb v.bd.length pb, .slice Pg v.gh.length pg]) v ∧ Bw w w' := by
 obtain ⟨Al, cl, Am, cm, At, ct, Ab, cb, Ag, cg, rfl, r, hc⟩ := hx
 rw [vlz] at hn
 refine (toView v.ro v.fr Al _ cl Am _ cm At _ ct Ab _ cb Ag _ cg v.f w r (by omega) (by omega) (by omega) (by omega) (by omega)).mono ?_
 rintro e w' ⟨vl, vm, vt, vb, vg, rfl, h1, h2, h3, h4, h5, ap, hz, b⟩
 obtain ⟨Pl, pl, rfl, _, _⟩ := h1.reads
 obtain ⟨Pm, pm, rfl, _, _⟩ := h2.reads
 obtain ⟨Pt, pt, rfl, _, _⟩ := h3.reads
 obtain ⟨Pb, pb, rfl, _, _⟩ := h4.reads
 obtain ⟨Pg, pg, rfl, _, _⟩ := h5.reads
 refine ⟨_, Pl, pl, Pm, pm, Pt, pt, Pb, pb, Pg, pg, rfl, rfl, ⟨_, _, _, _, _, rfl, h1.mono (by omega) (Nat.le_refl _), h2.mono (by omega) (Nat.le_refl _), h3.mono (by omega) (Nat.le_refl _), h4.mono (by omega) (Nat.le_refl _), h5.mono (by omega) (Nat.le_refl _), ap⟩, b⟩
theorem eqView' (x y : Value) (v : Vl) (w : World) (hx : VaR w x v) (hy : VaR w y v) :
  Calls Try.prog 20 #[x, y] w fun e w' => e = .returned (.bool true) ∧ Bw w w' := by
 obtain ⟨Al, cl, Am, cm, At, ct, Ab, cb, Ag, cg, rfl, r, hc⟩ := hx
 obtain ⟨Pl, pl, Pm, pm, Pt, pt, Pb, pb, Pg, pg, rfl, q, hd⟩ := hy
 exact eqView_yes v.ro v.fr Al _ cl Am _ cm At _ ct Ab _ cb Ag _ cg Pl pl Pm pm Pt pt Pb pb Pg pg v.f w r q
def vlm (v : Vl) : Nat := v.lv.length * 3 + v.ms.length + v.ts.length + v.bd.length + v.gh.length
set_option maxHeartbeats 4000000 in
set_option maxRecDepth 100000 in
theorem markView (x : Value) (v : Vl) (a r : Int) (w : World) (lo hi : Nat) (h : VaO w lo hi x v) (hh : hi ≤ w.heap.size) (hs : vlz v ≤ 1048576) (h0 : 0 ≤ a) (ha : a ≤ 1000000000) (hr : a + (vlm v : Nat) = r) :
  Calls Try.prog 21 #[x, .int .i64 a] w fun e w' => e = .returned (.int .i64 r) ∧ Wi w w' lo hi := by
 rw [vlz] at hs
 rw [vlm] at hr
 obtain ⟨vl, vm, vt, vb, vg, rfl, Rl, Rm, Rt, Rb, Rg, ap_lm, ap_lt, ap_lb, ap_lg, ap_mt, ap_mb, ap_mg, ap_tb, ap_tg, ap_bg⟩ := h
 obtain ⟨Al, cl, rfl, _, _⟩ := Rl.reads
 obtain ⟨Am, cm, rfl, _, _⟩ := Rm.reads
 obtain ⟨At, ct, rfl, _, _⟩ := Rt.reads
 obtain ⟨Ab, cb, rfl, _, _⟩ := Rb.reads
 obtain ⟨Ag, cg, rfl, _, _⟩ := Rg.reads
 have b0 := Bw.box1 w (.cells #[.int .i64 v.ro, .int .i64 v.fr, .slice Al v.lv.length cl, .slice Am v.ms.length cm, .slice At v.ts.length ct, .slice Ab v.bd.length cb, .slice Ag v.gh.length cg] 38)
 replace Rl := Rl.to b0
 replace Rm := Rm.to b0
 replace Rt := Rt.to b0
 replace Rb := Rb.to b0
 replace Rg := Rg.to b0
 have CW := b0.wi lo hi
 clear b0
 obtain ⟨p0, hp0⟩ : ∃ p0, p0 = a := ⟨_, rfl⟩
 subst hp0
 obtain ⟨p1, e1⟩ : ∃ p1, Hid (p0 + (v.lv.length * 3 : Nat) = p1) := ⟨_, hid rfl⟩
 obtain ⟨p2, e2⟩ : ∃ p2, Hid (p1 + (v.ms.length : Nat) = p2) := ⟨_, hid rfl⟩
 obtain ⟨p3, e3⟩ : ∃ p3, Hid (p2 + (v.ts.length : Nat) = p3) := ⟨_, hid rfl⟩
 obtain ⟨p4, e4⟩ : ∃ p4, Hid (p3 + (v.bd.length : Nat) = p4) := ⟨_, hid rfl⟩
 obtain ⟨p5, e5⟩ : ∃ p5, Hid (p4 + (v.gh.length : Nat) = p5) := ⟨_, hid rfl⟩
 have hp : (0 ≤ p1 ∧ p1 ≤ 2000000000) ∧ (0 ≤ p2 ∧ p2 ≤ 2000000000) ∧ (0 ≤ p3 ∧ p3 ≤ 2000000000) ∧ (0 ≤ p4 ∧ p4 ≤ 2000000000) ∧ p5 = r := by
  have := e1.out; have := e2.out; have := e3.out; have := e4.out; have := e5.out
  omega
 have hpr := hid hp.2.2.2.2
 have hq : (0 ≤ p1 ∧ p1 ≤ 2000000000) ∧ (0 ≤ p2 ∧ p2 ≤ 2000000000) ∧ (0 ≤ p3 ∧ p3 ≤ 2000000000) ∧ (0 ≤ p4 ∧ p4 ≤ 2000000000) := ⟨hp.1, hp.2.1, hp.2.2.1, hp.2.2.2.1⟩
 clear hp hr
 have g0 := box_cell (Bw.refl (w.alloc (.cells #[.int .i64 v.ro, .int .i64 v.fr, .slice Al v.lv.length cl, .slice Am v.ms.length cm, .slice At v.ts.length ct, .slice Ab v.bd.length cb, .slice Ag v.gh.length cg] 38))) 0
 have g1 := box_cell (Bw.refl (w.alloc (.cells #[.int .i64 v.ro, .int .i64 v.fr, .slice Al v.lv.length cl, .slice Am v.ms.length cm, .slice At v.ts.length ct, .slice Ab v.bd.length cb, .slice Ag v.gh.length cg] 38))) 1
 have g2 := box_cell (Bw.refl (w.alloc (.cells #[.int .i64 v.ro, .int .i64 v.fr, .slice Al v.lv.length cl, .slice Am v.ms.length cm, .slice At v.ts.length ct, .slice Ab v.bd.length cb, .slice Ag v.gh.length cg] 38))) 2
 have g3 := box_cell (Bw.refl (w.alloc (.cells #[.int .i64 v.ro, .int .i64 v.fr, .slice Al v.lv.length cl, .slice Am v.ms.length cm, .slice At v.ts.length ct, .slice Ab v.bd.length cb, .slice Ag v.gh.length cg] 38))) 3
 have g4 := box_cell (Bw.refl (w.alloc (.cells #[.int .i64 v.ro, .int .i64 v.fr, .slice Al v.lv.length cl, .slice Am v.ms.length cm, .slice At v.ts.length ct, .slice Ab v.bd.length cb, .slice Ag v.gh.length cg] 38))) 4
 have g5 := box_cell (Bw.refl (w.alloc (.cells #[.int .i64 v.ro, .int .i64 v.fr, .slice Al v.lv.length cl, .slice Am v.ms.length cm, .slice At v.ts.length ct, .slice Ab v.bd.length cb, .slice Ag v.gh.length cg] 38))) 5
 have g6 := box_cell (Bw.refl (w.alloc (.cells #[.int .i64 v.ro, .int .i64 v.fr, .slice Al v.lv.length cl, .slice Am v.ms.length cm, .slice At v.ts.length ct, .slice Ab v.bd.length cb, .slice Ag v.gh.length cg] 38))) 6
 simp only [List.getElem?_toArray, List.getElem?_cons_zero, List.getElem?_cons_succ] at g0 g1 g2 g3 g4 g5 g6
 go_enter Try.func21, Try.ntmps21
 go_wp2_with fail
 generalize (w.alloc (.cells #[.int .i64 v.ro, .int .i64 v.fr, .slice Al v.lv.length cl, .slice Am v.ms.length cm, .slice At v.ts.length ct, .slice Ab v.bd.length cb, .slice Ag v.gh.length cg] 38)) = w1 at *
 refine (markRowI (.slice Al v.lv.length cl) v.lv.length _ p0 p1 _ lo hi Rl (by omega) (by omega) (by omega) e1.out).mono ?_
 rintro e_ w3 ⟨rfl, S, hg⟩
 have cg := S.chg' Rl hg
 replace Rm := Rm.grown hg ap_lm.flip
 replace Rt := Rt.grown hg ap_lt.flip
 replace Rb := Rb.grown hg ap_lb.flip
 replace Rg := Rg.grown hg ap_lg.flip
 replace g0 := cell_wi cg g0 (by show ¬ (lo ≤ w.heap.size ∧ w.heap.size < hi); omega)
 replace g1 := cell_wi cg g1 (by show ¬ (lo ≤ w.heap.size ∧ w.heap.size < hi); omega)
 replace g2 := cell_wi cg g2 (by show ¬ (lo ≤ w.heap.size ∧ w.heap.size < hi); omega)
 replace g3 := cell_wi cg g3 (by show ¬ (lo ≤ w.heap.size ∧ w.heap.size < hi); omega)
 replace g4 := cell_wi cg g4 (by show ¬ (lo ≤ w.heap.size ∧ w.heap.size < hi); omega)
 replace g5 := cell_wi cg g5 (by show ¬ (lo ≤ w.heap.size ∧ w.heap.size < hi); omega)
 replace g6 := cell_wi cg g6 (by show ¬ (lo ≤ w.heap.size ∧ w.heap.size < hi); omega)
 replace CW := CW.trans cg
 clear hg cg S Rl
 go_wp2_with fail
 refine (markRowN (.slice Am v.ms.length cm) v.ms.length _ p1 p2 _ lo hi Rm (by omega) (by omega) (by omega) e2.out).mono ?_
 rintro e_ w3 ⟨rfl, S, hg⟩
 have cg := S.chg' Rm hg
 replace Rt := Rt.grown hg ap_mt.flip
 replace Rb := Rb.grown hg ap_mb.flip
 replace Rg := Rg.grown hg ap_mg.flip
 replace g0 := cell_wi cg g0 (by show ¬ (lo ≤ w.heap.size ∧ w.heap.size < hi); omega)
 replace g1 := cell_wi cg g1 (by show ¬ (lo ≤ w.heap.size ∧ w.heap.size < hi); omega)
 replace g2 := cell_wi cg g2 (by show ¬ (lo ≤ w.heap.size ∧ w.heap.size < hi); omega)
 replace g3 := cell_wi cg g3 (by show ¬ (lo ≤ w.heap.size ∧ w.heap.size < hi); omega)
 replace g4 := cell_wi cg g4 (by show ¬ (lo ≤ w.heap.size ∧ w.heap.size < hi); omega)
 replace g5 := cell_wi cg g5 (by show ¬ (lo ≤ w.heap.size ∧ w.heap.size < hi); omega)
 replace g6 := cell_wi cg g6 (by show ¬ (lo ≤ w.heap.size ∧ w.heap.size < hi); omega)
 replace CW := CW.trans cg
 clear hg cg S Rm
 go_wp2_with fail
 refine (markRowN (.slice At v.ts.length ct) v.ts.length _ p2 p3 _ lo hi Rt (by omega) (by omega) (by omega) e3.out).mono ?_
 rintro e_ w3 ⟨rfl, S, hg⟩
 have cg := S.chg' Rt hg
 replace Rb := Rb.grown hg ap_tb.flip
 replace Rg := Rg.grown hg ap_tg.flip
 replace g0 := cell_wi cg g0 (by show ¬ (lo ≤ w.heap.size ∧ w.heap.size < hi); omega)
 replace g1 := cell_wi cg g1 (by show ¬ (lo ≤ w.heap.size ∧ w.heap.size < hi); omega)
 replace g2 := cell_wi cg g2 (by show ¬ (lo ≤ w.heap.size ∧ w.heap.size < hi); omega)
 replace g3 := cell_wi cg g3 (by show ¬ (lo ≤ w.heap.size ∧ w.heap.size < hi); omega)
 replace g4 := cell_wi cg g4 (by show ¬ (lo ≤ w.heap.size ∧ w.heap.size < hi); omega)
 replace g5 := cell_wi cg g5 (by show ¬ (lo ≤ w.heap.size ∧ w.heap.size < hi); omega)
 replace g6 := cell_wi cg g6 (by show ¬ (lo ≤ w.heap.size ∧ w.heap.size < hi); omega)
 replace CW := CW.trans cg
 clear hg cg S Rt
 go_wp2_with fail
 refine (markRowN (.slice Ab v.bd.length cb) v.bd.length _ p3 p4 _ lo hi Rb (by omega) (by omega) (by omega) e4.out).mono ?_
 rintro e_ w3 ⟨rfl, S, hg⟩
 have cg := S.chg' Rb hg
 replace Rg := Rg.grown hg ap_bg.flip
 replace g0 := cell_wi cg g0 (by show ¬ (lo ≤ w.heap.size ∧ w.heap.size < hi); omega)
 replace g1 := cell_wi cg g1 (by show ¬ (lo ≤ w.heap.size ∧ w.heap.size < hi); omega)
 replace g2 := cell_wi cg g2 (by show ¬ (lo ≤ w.heap.size ∧ w.heap.size < hi); omega)
 replace g3 := cell_wi cg g3 (by show ¬ (lo ≤ w.heap.size ∧ w.heap.size < hi); omega)
 replace g4 := cell_wi cg g4 (by show ¬ (lo ≤ w.heap.size ∧ w.heap.size < hi); omega)
 replace g5 := cell_wi cg g5 (by show ¬ (lo ≤ w.heap.size ∧ w.heap.size < hi); omega)
 replace g6 := cell_wi cg g6 (by show ¬ (lo ≤ w.heap.size ∧ w.heap.size < hi); omega)
 replace CW := CW.trans cg
 clear hg cg S Rb
 go_wp2_with fail
 refine (markRowN (.slice Ag v.gh.length cg) v.gh.length _ p4 p5 _ lo hi Rg (by omega) (by omega) (by omega) e5.out).mono ?_
 rintro e_ w3 ⟨rfl, S, hg⟩
 have cg := S.chg' Rg hg
 replace g0 := cell_wi cg g0 (by show ¬ (lo ≤ w.heap.size ∧ w.heap.size < hi); omega)
 replace g1 := cell_wi cg g1 (by show ¬ (lo ≤ w.heap.size ∧ w.heap.size < hi); omega)
 replace g2 := cell_wi cg g2 (by show ¬ (lo ≤ w.heap.size ∧ w.heap.size < hi); omega)
 replace g3 := cell_wi cg g3 (by show ¬ (lo ≤ w.heap.size ∧ w.heap.size < hi); omega)
 replace g4 := cell_wi cg g4 (by show ¬ (lo ≤ w.heap.size ∧ w.heap.size < hi); omega)
 replace g5 := cell_wi cg g5 (by show ¬ (lo ≤ w.heap.size ∧ w.heap.size < hi); omega)
 replace g6 := cell_wi cg g6 (by show ¬ (lo ≤ w.heap.size ∧ w.heap.size < hi); omega)
 replace CW := CW.trans cg
 clear hg cg S Rg
 have HCW := hid CW
 clear CW
 go_wp2
 go_ret
 exact ⟨ret_int hpr.out, HCW.out⟩
theorem locL_len (v : Vl) (t : Int) (h : vlz v ≤ 1048576) : (locL v.lv v.ms v.bd v.gh t).length ≤ 1048576 := by
 cases hu : usable v.lv v.ms v.bd v.gh with
 | false => rw [locL, hu]; simp
 | true =>
  have := (usable_parts hu).2.1
  rw [locL_yes hu, rowOf_len]
  rw [vlz] at h
  have := (usable_parts hu).2.2.1
  omega
theorem impl_LocalFluxes' (x : Value) (v : Vl) (t : Int) (F : List Int) (m : Nat) (w : World) (hx : VaR w x v) (hn : vlz v ≤ 1048576) (ht : t ≤ 9223372036854775807) (hF : locL v.lv v.ms v.bd v.gh t = F) (hm : F.length = m) :
  Calls Try.prog 18 #[x, .int .i64 t] w fun e w' => ∃ (z : Nat) (X : Option Addr) (y : Nat), z = w.heap.size ∧ e = .returned (.slice X m y) ∧ Rw w' z w'.heap.size 3 1 (.slice X m y) m F ∧ Bw w w' := by
 obtain ⟨Al, cl, Am, cm, At, ct, Ab, cb, Ag, cg, rfl, r, hc⟩ := hx
 rw [vlz] at hn
 refine (impl_LocalFluxes v.ro v.fr Al Am At Ab Ag _ _ _ _ _ cl cm ct cb cg v.lv v.ms v.bd v.gh t w r.l.id r.m r.b r.g hc (by omega) ht).mono ?_
 rintro e w' ⟨u, rfl, o, b⟩
 rw [hF, hm] at o
 obtain ⟨X, y, rfl, _, _⟩ := FO.reads (t := 3) (k := 1) ⟨o.out⟩
 exact ⟨_, _, _, rfl, rfl, OI.rw o, b⟩
theorem spec_LocalFluxes' (x : Value) (v : Vl) (t : Int) (F : List Int) (m : Nat) (w : World) (hx : VaR w x v) (hn : vlz v ≤ 1048576) (ht : t ≤ 9223372036854775807) (hF : locL v.lv v.ms v.bd v.gh t = F) (hm : F.length = m) :
  Calls Try.prog 16 #[x, .int .i64 t] w fun e w' => ∃ (z : Nat) (X : Option Addr) (y : Nat), z = w.heap.size ∧ e = .returned (.slice X m y) ∧ Rw w' z w'.heap.size 3 1 (.slice X m y) m F ∧ Bw w w' := by
 obtain ⟨Al, cl, Am, cm, At, ct, Ab, cb, Ag, cg, rfl, r, hc⟩ := hx
 rw [vlz] at hn
 refine (spec_LocalFluxes v.ro v.fr Al Am At Ab Ag _ _ _ _ _ cl cm ct cb cg v.lv v.ms v.bd v.gh t w r.l.id r.m r.b r.g hc (by omega) ht).mono ?_
 rintro e w' ⟨u, rfl, o, b⟩
 rw [hF, hm] at o
 obtain ⟨X, y, rfl, _, _⟩ := FO.reads (t := 3) (k := 1) ⟨o.out⟩
 exact ⟨_, _, _, rfl, rfl, OI.rw o, b⟩
set_option maxHeartbeats 8000000 in
set_option maxRecDepth 100000 in
theorem laws_FnExactLocalFluxes (v : Vl) (Al : Option Addr) (cl : Nat) (Am : Option Addr) (cm : Nat) (At : Option Addr) (ct : Nat) (Ab : Option Addr) (cb : Nat) (Ag : Option Addr) (cg : Nat) (t : Int) (w : World) (hx0 : VaR w (.agg #[.int .i64 v.ro, .int .i64 v.fr, .slice Al v.lv.length cl, .slice Am v.ms.length cm, .slice At v.ts.length ct, .slice Ab v.bd.length cb, .slice Ag v.gh.length cg]) v) (ht : t ≤ 9223372036854775807) :
  Calls Try.prog 4 #[.agg #[.int .i64 v.ro, .int .i64 v.fr, .slice Al v.lv.length cl, .slice Am v.ms.length cm, .slice At v.ts.length ct, .slice Ab v.bd.length cb, .slice Ag v.gh.length cg], .int .i64 t] w fun e w' => e = .returned (.bool true) ∧ Bw w w' := by
 have HT := hid ht
 clear ht
 have hB := Bw.box1 w (.cells #[.int .i64 v.ro, .int .i64 v.fr, .slice Al v.lv.length cl, .slice Am v.ms.length cm, .slice At v.ts.length ct, .slice Ab v.bd.length cb, .slice Ag v.gh.length cg] 33)
 have k0 := box_cell (Bw.refl (w.alloc (.cells #[.int .i64 v.ro, .int .i64 v.fr, .slice Al v.lv.length cl, .slice Am v.ms.length cm, .slice At v.ts.length ct, .slice Ab v.bd.length cb, .slice Ag v.gh.length cg] 33))) 0
 have k1 := box_cell (Bw.refl (w.alloc (.cells #[.int .i64 v.ro, .int .i64 v.fr, .slice Al v.lv.length cl, .slice Am v.ms.length cm, .slice At v.ts.length ct, .slice Ab v.bd.length cb, .slice Ag v.gh.length cg] 33))) 1
 have k2 := box_cell (Bw.refl (w.alloc (.cells #[.int .i64 v.ro, .int .i64 v.fr, .slice Al v.lv.length cl, .slice Am v.ms.length cm, .slice At v.ts.length ct, .slice Ab v.bd.length cb, .slice Ag v.gh.length cg] 33))) 2
 have k3 := box_cell (Bw.refl (w.alloc (.cells #[.int .i64 v.ro, .int .i64 v.fr, .slice Al v.lv.length cl, .slice Am v.ms.length cm, .slice At v.ts.length ct, .slice Ab v.bd.length cb, .slice Ag v.gh.length cg] 33))) 3
 have k4 := box_cell (Bw.refl (w.alloc (.cells #[.int .i64 v.ro, .int .i64 v.fr, .slice Al v.lv.length cl, .slice Am v.ms.length cm, .slice At v.ts.length ct, .slice Ab v.bd.length cb, .slice Ag v.gh.length cg] 33))) 4
 have k5 := box_cell (Bw.refl (w.alloc (.cells #[.int .i64 v.ro, .int .i64 v.fr, .slice Al v.lv.length cl, .slice Am v.ms.length cm, .slice At v.ts.length ct, .slice Ab v.bd.length cb, .slice Ag v.gh.length cg] 33))) 5
 have k6 := box_cell (Bw.refl (w.alloc (.cells #[.int .i64 v.ro, .int .i64 v.fr, .slice Al v.lv.length cl, .slice Am v.ms.length cm, .slice At v.ts.length ct, .slice Ab v.bd.length cb, .slice Ag v.gh.length cg] 33))) 6
 simp only [List.getElem?_toArray, List.getElem?_cons_zero, List.getElem?_cons_succ] at k0 k1 k2 k3 k4 k5 k6
 have hz0 : (w.alloc (.cells #[.int .i64 v.ro, .int .i64 v.fr, .slice Al v.lv.length cl, .slice Am v.ms.length cm, .slice At v.ts.length ct, .slice Ab v.bd.length cb, .slice Ag v.gh.length cg] 33)).heap.size = w.heap.size + 1 := by simp
 have hx := VaR.to hx0 hB
 go_enter Try.func4, Try.ntmps4
 go_wp2_with fail
 generalize (w.alloc (.cells #[.int .i64 v.ro, .int .i64 v.fr, .slice Al v.lv.length cl, .slice Am v.ms.length cm, .slice At v.ts.length ct, .slice Ab v.bd.length cb, .slice Ag v.gh.length cg] 33)) = w1 at *
 refine (szView' _ v _ hx).mono ?_
 rintro e_ w2 ⟨lf, rfl, hsz, b1⟩
 replace k0 := pw_cell_below b1.out k0
 replace k1 := pw_cell_below b1.out k1
 replace k2 := pw_cell_below b1.out k2
 replace k3 := pw_cell_below b1.out k3
 replace k4 := pw_cell_below b1.out k4
 replace k5 := pw_cell_below b1.out k5
 replace k6 := pw_cell_below b1.out k6
 replace hB := hB.trans b1
 have hb2 := b1.size
 clear b1
 by_cases hneg : lf < 0
 ·have hd : decide (lf < 0) = true := decide_eq_true hneg
  clear hsz
  go_wp2
  go_ret
  exact ⟨rfl, hB⟩
 have hd : decide (lf < 0) = false := decide_eq_false hneg
 have hN := hsz (by omega)
 clear hsz hneg
 obtain ⟨F, hF⟩ : ∃ F, locL v.lv v.ms v.bd v.gh t = F := ⟨_, rfl⟩
 obtain ⟨m, hm⟩ : ∃ m, F.length = m := ⟨_, rfl⟩
 have hmm : m ≤ 1048576 := by rw [← hm, ← hF]; exact locL_len v t hN
 have hvm : vlm v ≤ 4000000 := by rw [vlm]; rw [vlz] at hN; omega
 have HF := hid hF
 have HM := hid hm
 clear hF hm
 go_wp2_with fail
 refine (toView' _ v _ (VaR.to hx0 hB) hN).mono ?_
 rintro e_ w3 ⟨z3, Pl, pl, Pm, pm, Pt, pt, Pb, pb, Pg, pg, hz3, rfl, hv, b1⟩
 have hy3 : w.heap.size + 1 ≤ z3 := by rw [hz3]; omega
 replace k0 := pw_cell_below b1.out k0
 replace k1 := pw_cell_below b1.out k1
 replace k2 := pw_cell_below b1.out k2
 replace k3 := pw_cell_below b1.out k3
 replace k4 := pw_cell_below b1.out k4
 replace k5 := pw_cell_below b1.out k5
 replace k6 := pw_cell_below b1.out k6
 replace hB := hB.trans b1
 have hb3 := b1.size
 clear b1
 go_wp2_with fail
 refine (spec_LocalFluxes' _ v t F m _ hv.r hN HT.out HF.out HM.out).mono ?_
 rintro e_ w5 ⟨z5, XW, yW, hz5, rfl, hw, b1⟩
 have hy5 : w.heap.size + 1 ≤ z5 := by rw [hz5]; omega
 replace k0 := pw_cell_below b1.out k0
 replace k1 := pw_cell_below b1.out k1
 replace k2 := pw_cell_below b1.out k2
 replace k3 := pw_cell_below b1.out k3
 replace k4 := pw_cell_below b1.out k4
 replace k5 := pw_cell_below b1.out k5
 replace k6 := pw_cell_below b1.out k6
 replace hv := hv.to b1
 replace hB := hB.trans b1
 have hb5 := b1.size
 clear b1
 clear hv
 go_wp2_with fail
 refine (toView' _ v _ (VaR.to hx0 hB) hN).mono ?_
 rintro e_ w6 ⟨z6, Fl, fl, Fm, fm, Ft, ft, Fb, fb, Fg, fg, hz6, rfl, x0, b1⟩
 have hy6 : w.heap.size + 1 ≤ z6 := by rw [hz6]; omega
 replace k0 := pw_cell_below b1.out k0
 replace k1 := pw_cell_below b1.out k1
 replace k2 := pw_cell_below b1.out k2
 replace k3 := pw_cell_below b1.out k3
 replace k4 := pw_cell_below b1.out k4
 replace k5 := pw_cell_below b1.out k5
 replace k6 := pw_cell_below b1.out k6
 replace hw := hw.to b1
 replace hB := hB.trans b1
 have hb6 := b1.size
 clear b1
 have g0 := box_cell (Bw.refl (w6.alloc (.cells #[.int .i64 v.ro, .int .i64 v.fr, .slice Fl v.lv.length fl, .slice Fm v.ms.length fm, .slice Ft v.ts.length ft, .slice Fb v.bd.length fb, .slice Fg v.gh.length fg] 38))) 0
 have g1 := box_cell (Bw.refl (w6.alloc (.cells #[.int .i64 v.ro, .int .i64 v.fr, .slice Fl v.lv.length fl, .slice Fm v.ms.length fm, .slice Ft v.ts.length ft, .slice Fb v.bd.length fb, .slice Fg v.gh.length fg] 38))) 1
 have g2 := box_cell (Bw.refl (w6.alloc (.cells #[.int .i64 v.ro, .int .i64 v.fr, .slice Fl v.lv.length fl, .slice Fm v.ms.length fm, .slice Ft v.ts.length ft, .slice Fb v.bd.length fb, .slice Fg v.gh.length fg] 38))) 2
 have g3 := box_cell (Bw.refl (w6.alloc (.cells #[.int .i64 v.ro, .int .i64 v.fr, .slice Fl v.lv.length fl, .slice Fm v.ms.length fm, .slice Ft v.ts.length ft, .slice Fb v.bd.length fb, .slice Fg v.gh.length fg] 38))) 3
 have g4 := box_cell (Bw.refl (w6.alloc (.cells #[.int .i64 v.ro, .int .i64 v.fr, .slice Fl v.lv.length fl, .slice Fm v.ms.length fm, .slice Ft v.ts.length ft, .slice Fb v.bd.length fb, .slice Fg v.gh.length fg] 38))) 4
 have g5 := box_cell (Bw.refl (w6.alloc (.cells #[.int .i64 v.ro, .int .i64 v.fr, .slice Fl v.lv.length fl, .slice Fm v.ms.length fm, .slice Ft v.ts.length ft, .slice Fb v.bd.length fb, .slice Fg v.gh.length fg] 38))) 5
 have g6 := box_cell (Bw.refl (w6.alloc (.cells #[.int .i64 v.ro, .int .i64 v.fr, .slice Fl v.lv.length fl, .slice Fm v.ms.length fm, .slice Ft v.ts.length ft, .slice Fb v.bd.length fb, .slice Fg v.gh.length fg] 38))) 6
 simp only [List.getElem?_toArray, List.getElem?_cons_zero, List.getElem?_cons_succ] at g0 g1 g2 g3 g4 g5 g6
 have b1 := Bw.box1 w6 (.cells #[.int .i64 v.ro, .int .i64 v.fr, .slice Fl v.lv.length fl, .slice Fm v.ms.length fm, .slice Ft v.ts.length ft, .slice Fb v.bd.length fb, .slice Fg v.gh.length fg] 38)
 replace k0 := pw_cell_below b1.out k0
 replace k1 := pw_cell_below b1.out k1
 replace k2 := pw_cell_below b1.out k2
 replace k3 := pw_cell_below b1.out k3
 replace k4 := pw_cell_below b1.out k4
 replace k5 := pw_cell_below b1.out k5
 replace k6 := pw_cell_below b1.out k6
 replace hw := hw.to b1
 replace x0 := x0.to b1
 replace hB := hB.trans b1
 have hb7 : (w6.alloc (.cells #[.int .i64 v.ro, .int .i64 v.fr, .slice Fl v.lv.length fl, .slice Fm v.ms.length fm, .slice Ft v.ts.length ft, .slice Fb v.bd.length fb, .slice Fg v.gh.length fg] 38)).heap.size = w6.heap.size + 1 := by simp
 clear b1
 go_wp2_with fail
 generalize (w6.alloc (.cells #[.int .i64 v.ro, .int .i64 v.fr, .slice Fl v.lv.length fl, .slice Fm v.ms.length fm, .slice Ft v.ts.length ft, .slice Fb v.bd.length fb, .slice Fg v.gh.length fg] 38)) = w7 at *
 refine (impl_LocalFluxes' _ v t F m _ x0.r hN HT.out HF.out HM.out).mono ?_
 rintro e_ w9 ⟨z9, XG, yG, hz9, rfl, hg, b1⟩
 have hy9 : w.heap.size + 1 ≤ z9 := by rw [hz9]; omega
 replace k0 := pw_cell_below b1.out k0
 replace k1 := pw_cell_below b1.out k1
 replace k2 := pw_cell_below b1.out k2
 replace k3 := pw_cell_below b1.out k3
 replace k4 := pw_cell_below b1.out k4
 replace k5 := pw_cell_below b1.out k5
 replace k6 := pw_cell_below b1.out k6
 replace g0 := pw_cell_below b1.out g0
 replace g1 := pw_cell_below b1.out g1
 replace g2 := pw_cell_below b1.out g2
 replace g3 := pw_cell_below b1.out g3
 replace g4 := pw_cell_below b1.out g4
 replace g5 := pw_cell_below b1.out g5
 replace g6 := pw_cell_below b1.out g6
 replace hw := hw.to b1
 replace x0 := x0.to b1
 replace hB := hB.trans b1
 have hb9 := b1.size
 clear b1
 go_wp2_with fail
 refine (eqIntS XG m yG F XW m yW F _ hg.rdI' hw.rdI').mono ?_
 rintro e_ w10 ⟨rfl, d1⟩
 have b1 := Bw.drawn d1
 rw [decide_eq_true (rfl : F = F)]
 replace k0 := pw_cell_below b1.out k0
 replace k1 := pw_cell_below b1.out k1
 replace k2 := pw_cell_below b1.out k2
 replace k3 := pw_cell_below b1.out k3
 replace k4 := pw_cell_below b1.out k4
 replace k5 := pw_cell_below b1.out k5
 replace k6 := pw_cell_below b1.out k6
 replace g0 := pw_cell_below b1.out g0
 replace g1 := pw_cell_below b1.out g1
 replace g2 := pw_cell_below b1.out g2
 replace g3 := pw_cell_below b1.out g3
 replace g4 := pw_cell_below b1.out g4
 replace g5 := pw_cell_below b1.out g5
 replace g6 := pw_cell_below b1.out g6
 replace hw := hw.to b1
 replace x0 := x0.to b1
 replace hg := hg.to b1
 replace hB := hB.trans b1
 have hb10 := b1.size
 clear b1 d1
 go_wp2
 refine start_ (n := 5) (S := fun w' => w'.cell? ⟨w.heap.size, 0, none⟩ = some (.int .i64 v.ro) ∧ w'.cell? ⟨w.heap.size, 1, none⟩ = some (.int .i64 v.fr) ∧ w'.cell? ⟨w.heap.size, 2, none⟩ = some (.slice Al v.lv.length cl) ∧ w'.cell? ⟨w.heap.size, 3, none⟩ = some (.slice Am v.ms.length cm) ∧ w'.cell? ⟨w.heap.size, 4, none⟩ = some (.slice At v.ts.length ct) ∧ w'.cell? ⟨w.heap.size, 5, none⟩ = some (.slice Ab v.bd.length cb) ∧ w'.cell? ⟨w.heap.size, 6, none⟩ = some (.slice Ag v.gh.length cg) ∧ w'.cell? ⟨w6.heap.size, 0, none⟩ = some (.int .i64 v.ro) ∧ w'.cell? ⟨w6.heap.size, 1, none⟩ = some (.int .i64 v.fr) ∧ w'.cell? ⟨w6.heap.size, 2, none⟩ = some (.slice Fl v.lv.length fl) ∧ w'.cell? ⟨w6.heap.size, 3, none⟩ = some (.slice Fm v.ms.length fm) ∧ w'.cell? ⟨w6.heap.size, 4, none⟩ = some (.slice Ft v.ts.length ft) ∧ w'.cell? ⟨w6.heap.size, 5, none⟩ = some (.slice Fb v.bd.length fb) ∧ w'.cell? ⟨w6.heap.size, 6, none⟩ = some (.slice Fg v.gh.length fg)) (ds := [4]) #[false, false, false, false, false] (by kernel_rfl) rfl rfl ⟨k0, k1, k2, k3, k4, k5, k6, g0, g1, g2, g3, g4, g5, g6⟩ (fun hHeld => ?_)
 refine tq_ (i := 0) (N := (some 31)) (v := ?_) (a' := ?_) rfl rfl (by kernel_rfl) (fun _ _ _ h => h) (Or.inl ⟨by rfl, ?_⟩) hHeld ?_ ?_
 rotate_left; (rintro w' ⟨s0, s1, s2, s3, s4, s5, s6, s7, s8, s9, s10, s11, s12, s13⟩; go_simp; with_reducible rfl); rotate_left; (simp only [Act.put, s1_, s2_, s3_, i64_w, i32_w]; rfl)
 refine tq_ (i := 1) (N := (some 32)) (v := ?_) (a' := ?_) rfl rfl (by kernel_rfl) (fun _ _ _ h => h) (Or.inl ⟨by rfl, ?_⟩) hHeld ?_ ?_
 rotate_left; (rintro w' ⟨s0, s1, s2, s3, s4, s5, s6, s7, s8, s9, s10, s11, s12, s13⟩; go_simp; with_reducible rfl); rotate_left; (simp only [Act.put, s1_, s2_, s3_, i64_w, i32_w]; rfl)
 clear hHeld
 refine one_ (i := 2) (N := (some 33)) #[true, true, true, false, false] rfl rfl (by kernel_rfl) (by decide) (fun K hK => ?_)
 refine goes_ Try.func17 (by kernel_rfl) rfl #[.agg #[.int .i64 v.ro, .int .i64 v.fr, .slice Al v.lv.length cl, .slice Am v.ms.length cm, .slice At v.ts.length ct, .slice Ab v.bd.length cb, .slice Ag v.gh.length cg]] (by rfl) rfl rfl (by (try simp only [List.map_toArray, List.map_cons, List.map_nil]); first | done | rfl) ?_
 refine (toView' _ v _ (VaR.to hx0 (hB.trans (Bw.drawn ⟨⟨1, rfl⟩⟩))) hN).mono ?_
 rintro e wa ⟨z11, Ql, ql, Qm, qm, Qt, qt, Qb, qb, Qg, qg, hz11, rfl, y0, ba⟩
 refine ⟨_, rfl, ?_⟩
 have b1 := (Bw.drawn (a := w10) ⟨⟨1, rfl⟩⟩).trans ba
 clear ba
 have hy11 : w.heap.size + 1 ≤ z11 := by rw [hz11]; have := hB.size; have := (Bw.drawn (a := w10) ⟨⟨1, rfl⟩⟩).size; omega
 replace k0 := pw_cell_below b1.out k0
 replace k1 := pw_cell_below b1.out k1
 replace k2 := pw_cell_below b1.out k2
 replace k3 := pw_cell_below b1.out k3
 replace k4 := pw_cell_below b1.out k4
 replace k5 := pw_cell_below b1.out k5
 replace k6 := pw_cell_below b1.out k6
 replace g0 := pw_cell_below b1.out g0
 replace g1 := pw_cell_below b1.out g1
 replace g2 := pw_cell_below b1.out g2
 replace g3 := pw_cell_below b1.out g3
 replace g4 := pw_cell_below b1.out g4
 replace g5 := pw_cell_below b1.out g5
 replace g6 := pw_cell_below b1.out g6
 replace hw := hw.to b1
 replace x0 := x0.to b1
 replace hg := hg.to b1
 replace hB := hB.trans b1
 have hb11 := b1.size
 clear b1
 refine hK.out _ _ ⟨k0, k1, k2, k3, k4, k5, k6, g0, g1, g2, g3, g4, g5, g6⟩ (fun _ => ?_)
 rename_i hJ_
 clear hJ_
 clear hK K; refine norm_ (a' := ?_) ?_ ?_; rotate_left; (show Act.put _ (some 33) _ = _; simp only [Act.put, s1_, s2_, s3_, i64_w, i32_w]; rfl)
 refine one_ (i := 3) (N := (some 34)) #[true, true, true, true, false] rfl rfl (by kernel_rfl) (by decide) (fun K hK => ?_)
 refine goes_ Try.func20 (by kernel_rfl) rfl #[.agg #[.int .i64 v.ro, .int .i64 v.fr, .slice Fl v.lv.length fl, .slice Fm v.ms.length fm, .slice Ft v.ts.length ft, .slice Fb v.bd.length fb, .slice Fg v.gh.length fg], .agg #[.int .i64 v.ro, .int .i64 v.fr, .slice Ql v.lv.length ql, .slice Qm v.ms.length qm, .slice Qt v.ts.length qt, .slice Qb v.bd.length qb, .slice Qg v.gh.length qg]] (by rfl) rfl rfl (by (try simp only [List.map_toArray, List.map_cons, List.map_nil]); first | done | rfl) ?_
 refine (eqView' _ _ v _ x0.r y0.r).mono ?_
 rintro e wb ⟨rfl, b1⟩
 refine ⟨_, rfl, ?_⟩
 replace k0 := pw_cell_below b1.out k0
 replace k1 := pw_cell_below b1.out k1
 replace k2 := pw_cell_below b1.out k2
 replace k3 := pw_cell_below b1.out k3
 replace k4 := pw_cell_below b1.out k4
 replace k5 := pw_cell_below b1.out k5
 replace k6 := pw_cell_below b1.out k6
 replace g0 := pw_cell_below b1.out g0
 replace g1 := pw_cell_below b1.out g1
 replace g2 := pw_cell_below b1.out g2
 replace g3 := pw_cell_below b1.out g3
 replace g4 := pw_cell_below b1.out g4
 replace g5 := pw_cell_below b1.out g5
 replace g6 := pw_cell_below b1.out g6
 replace hw := hw.to b1
 replace x0 := x0.to b1
 replace hg := hg.to b1
 replace y0 := y0.to b1
 replace hB := hB.trans b1
 have hb12 := b1.size
 clear b1
 refine hK.out _ _ ⟨k0, k1, k2, k3, k4, k5, k6, g0, g1, g2, g3, g4, g5, g6⟩ (fun _ => ?_)
 rename_i hJ_
 clear hJ_
 clear hK K; refine norm_ (a' := ?_) ?_ ?_; rotate_left; (show Act.put _ (some 34) _ = _; simp only [Act.put, s1_, s2_, s3_, i64_w, i32_w]; rfl)
 refine last_ (i := 4) (N := (some 35)) #[true, true, true, true, true] rfl rfl (by kernel_rfl) (by decide) (fun K hK => ?_)
 refine value_ (w1 := ?_) (v := ?_) (by rfl) rfl ?_ ?_
 rotate_left 2
 ·go_simp
  constructor
  ·rfl
  ·rfl
 refine hK.out _ _ ?_
 clear hK K; refine norm_ (a' := ?_) ?_ ?_; rotate_left; (show Act.put _ (some 35) _ = _; simp only [Act.put, s1_, s2_, s3_, i64_w, i32_w]; rfl)
 refine done_ (by kernel_rfl) ?_
 clear y0
 go_wp2_with fail
 refine (markView (.agg #[.int .i64 v.ro, .int .i64 v.fr, .slice Fl v.lv.length fl, .slice Fm v.ms.length fm, .slice Ft v.ts.length ft, .slice Fb v.bd.length fb, .slice Fg v.gh.length fg]) v 1 (1 + (vlm v : Nat)) _ z6 w6.heap.size x0 (by omega) hN (by omega) (by omega) rfl).mono ?_
 rintro e_ w15 ⟨rfl, c1⟩
 clear x0
 replace k0 := cell_wi c1 k0 (by show ¬ (z6 ≤ w.heap.size ∧ w.heap.size < w6.heap.size); omega)
 replace k1 := cell_wi c1 k1 (by show ¬ (z6 ≤ w.heap.size ∧ w.heap.size < w6.heap.size); omega)
 replace k2 := cell_wi c1 k2 (by show ¬ (z6 ≤ w.heap.size ∧ w.heap.size < w6.heap.size); omega)
 replace k3 := cell_wi c1 k3 (by show ¬ (z6 ≤ w.heap.size ∧ w.heap.size < w6.heap.size); omega)
 replace k4 := cell_wi c1 k4 (by show ¬ (z6 ≤ w.heap.size ∧ w.heap.size < w6.heap.size); omega)
 replace k5 := cell_wi c1 k5 (by show ¬ (z6 ≤ w.heap.size ∧ w.heap.size < w6.heap.size); omega)
 replace k6 := cell_wi c1 k6 (by show ¬ (z6 ≤ w.heap.size ∧ w.heap.size < w6.heap.size); omega)
 replace g0 := cell_wi c1 g0 (by show ¬ (z6 ≤ w6.heap.size ∧ w6.heap.size < w6.heap.size); omega)
 replace g1 := cell_wi c1 g1 (by show ¬ (z6 ≤ w6.heap.size ∧ w6.heap.size < w6.heap.size); omega)
 replace g2 := cell_wi c1 g2 (by show ¬ (z6 ≤ w6.heap.size ∧ w6.heap.size < w6.heap.size); omega)
 replace g3 := cell_wi c1 g3 (by show ¬ (z6 ≤ w6.heap.size ∧ w6.heap.size < w6.heap.size); omega)
 replace g4 := cell_wi c1 g4 (by show ¬ (z6 ≤ w6.heap.size ∧ w6.heap.size < w6.heap.size); omega)
 replace g5 := cell_wi c1 g5 (by show ¬ (z6 ≤ w6.heap.size ∧ w6.heap.size < w6.heap.size); omega)
 replace g6 := cell_wi c1 g6 (by show ¬ (z6 ≤ w6.heap.size ∧ w6.heap.size < w6.heap.size); omega)
 replace hw := hw.wi c1 (by omega)
 replace hg := hg.wi c1 (by omega)
 replace hB := hB.then_wi c1 (by omega)
 have hb15 := c1.size
 clear c1
 have hk0 : decide ((1 : Int) + (vlm v : Nat) < 0) = false := decide_eq_false (by omega)
 go_wp2_with fail
 refine (eqIntS XG m yG F XW m yW F _ hg.rdI' hw.rdI').mono ?_
 rintro e_ w17 ⟨rfl, d1⟩
 have b1 := Bw.drawn d1
 rw [decide_eq_true (rfl : F = F)]
 replace k0 := pw_cell_below b1.out k0
 replace k1 := pw_cell_below b1.out k1
 replace k2 := pw_cell_below b1.out k2
 replace k3 := pw_cell_below b1.out k3
 replace k4 := pw_cell_below b1.out k4
 replace k5 := pw_cell_below b1.out k5
 replace k6 := pw_cell_below b1.out k6
 replace g0 := pw_cell_below b1.out g0
 replace g1 := pw_cell_below b1.out g1
 replace g2 := pw_cell_below b1.out g2
 replace g3 := pw_cell_below b1.out g3
 replace g4 := pw_cell_below b1.out g4
 replace g5 := pw_cell_below b1.out g5
 replace g6 := pw_cell_below b1.out g6
 replace hw := hw.to b1
 replace hg := hg.to b1
 replace hB := hB.trans b1
 have hb17 := b1.size
 clear b1 d1
 go_wp2_with fail
 refine (markRowN (.slice XG m yG) m F 1 (1 + (m : Nat)) _ z9 w9.heap.size hg hmm (by omega) (by omega) rfl).mono ?_
 rintro e_ w18 ⟨rfl, hmk, hgr⟩
 have c1 := hmk.chg' hg hgr
 clear hg hgr
 replace k0 := cell_wi c1 k0 (by show ¬ (z9 ≤ w.heap.size ∧ w.heap.size < w9.heap.size); omega)
 replace k1 := cell_wi c1 k1 (by show ¬ (z9 ≤ w.heap.size ∧ w.heap.size < w9.heap.size); omega)
 replace k2 := cell_wi c1 k2 (by show ¬ (z9 ≤ w.heap.size ∧ w.heap.size < w9.heap.size); omega)
 replace k3 := cell_wi c1 k3 (by show ¬ (z9 ≤ w.heap.size ∧ w.heap.size < w9.heap.size); omega)
 replace k4 := cell_wi c1 k4 (by show ¬ (z9 ≤ w.heap.size ∧ w.heap.size < w9.heap.size); omega)
 replace k5 := cell_wi c1 k5 (by show ¬ (z9 ≤ w.heap.size ∧ w.heap.size < w9.heap.size); omega)
 replace k6 := cell_wi c1 k6 (by show ¬ (z9 ≤ w.heap.size ∧ w.heap.size < w9.heap.size); omega)
 replace g0 := cell_wi c1 g0 (by show ¬ (z9 ≤ w6.heap.size ∧ w6.heap.size < w9.heap.size); omega)
 replace g1 := cell_wi c1 g1 (by show ¬ (z9 ≤ w6.heap.size ∧ w6.heap.size < w9.heap.size); omega)
 replace g2 := cell_wi c1 g2 (by show ¬ (z9 ≤ w6.heap.size ∧ w6.heap.size < w9.heap.size); omega)
 replace g3 := cell_wi c1 g3 (by show ¬ (z9 ≤ w6.heap.size ∧ w6.heap.size < w9.heap.size); omega)
 replace g4 := cell_wi c1 g4 (by show ¬ (z9 ≤ w6.heap.size ∧ w6.heap.size < w9.heap.size); omega)
 replace g5 := cell_wi c1 g5 (by show ¬ (z9 ≤ w6.heap.size ∧ w6.heap.size < w9.heap.size); omega)
 replace g6 := cell_wi c1 g6 (by show ¬ (z9 ≤ w6.heap.size ∧ w6.heap.size < w9.heap.size); omega)
 replace hw := hw.wi c1 (by omega)
 replace hB := hB.then_wi c1 (by omega)
 have hb18 := c1.size
 clear c1
 have hk1 : decide ((1 : Int) + (m : Nat) < 0) = false := decide_eq_false (by omega)
 have hk2 : ((1 : Int) + (m : Nat) != 1 + (m : Nat)) = false := by simp
 go_wp2_with fail
 refine (heldRowN XG m yG 1 (1 + (m : Nat)) _ hmk.rdI' hmm (by omega) (by omega) rfl).mono ?_
 rintro e_ w19 ⟨rfl, d1⟩
 have b1 := Bw.drawn d1
 replace k0 := pw_cell_below b1.out k0
 replace k1 := pw_cell_below b1.out k1
 replace k2 := pw_cell_below b1.out k2
 replace k3 := pw_cell_below b1.out k3
 replace k4 := pw_cell_below b1.out k4
 replace k5 := pw_cell_below b1.out k5
 replace k6 := pw_cell_below b1.out k6
 replace g0 := pw_cell_below b1.out g0
 replace g1 := pw_cell_below b1.out g1
 replace g2 := pw_cell_below b1.out g2
 replace g3 := pw_cell_below b1.out g3
 replace g4 := pw_cell_below b1.out g4
 replace g5 := pw_cell_below b1.out g5
 replace g6 := pw_cell_below b1.out g6
 replace hw := hw.to b1
 replace hmk := hmk.to b1
 replace hB := hB.trans b1
 have hb19 := b1.size
 clear b1 d1
 go_wp2_with fail
 refine (toView' _ v _ (VaR.to hx0 hB) hN).mono ?_
 rintro e_ w20 ⟨z20, Ul, ul, Um, um, Ut, ut, Ub, ub, Ug, ug, hz20, rfl, x3, b1⟩
 have hy20 : w.heap.size + 1 ≤ z20 := by rw [hz20]; omega
 replace k0 := pw_cell_below b1.out k0
 replace k1 := pw_cell_below b1.out k1
 replace k2 := pw_cell_below b1.out k2
 replace k3 := pw_cell_below b1.out k3
 replace k4 := pw_cell_below b1.out k4
 replace k5 := pw_cell_below b1.out k5
 replace k6 := pw_cell_below b1.out k6
 replace g0 := pw_cell_below b1.out g0
 replace g1 := pw_cell_below b1.out g1
 replace g2 := pw_cell_below b1.out g2
 replace g3 := pw_cell_below b1.out g3
 replace g4 := pw_cell_below b1.out g4
 replace g5 := pw_cell_below b1.out g5
 replace g6 := pw_cell_below b1.out g6
 replace hw := hw.to b1
 replace hmk := hmk.to b1
 replace hB := hB.trans b1
 have hb20 := b1.size
 clear b1
 go_wp2_with fail
 refine (impl_LocalFluxes' _ v t F m _ x3.r hN HT.out HF.out HM.out).mono ?_
 rintro e_ w22 ⟨z22, XH, yH, hz22, rfl, hh, b1⟩
 have hy22 : w.heap.size + 1 ≤ z22 := by rw [hz22]; omega
 replace k0 := pw_cell_below b1.out k0
 replace k1 := pw_cell_below b1.out k1
 replace k2 := pw_cell_below b1.out k2
 replace k3 := pw_cell_below b1.out k3
 replace k4 := pw_cell_below b1.out k4
 replace k5 := pw_cell_below b1.out k5
 replace k6 := pw_cell_below b1.out k6
 replace g0 := pw_cell_below b1.out g0
 replace g1 := pw_cell_below b1.out g1
 replace g2 := pw_cell_below b1.out g2
 replace g3 := pw_cell_below b1.out g3
 replace g4 := pw_cell_below b1.out g4
 replace g5 := pw_cell_below b1.out g5
 replace g6 := pw_cell_below b1.out g6
 replace hw := hw.to b1
 replace hmk := hmk.to b1
 replace x3 := x3.to b1
 replace hB := hB.trans b1
 have hb22 := b1.size
 clear b1
 clear x3
 go_wp2_with fail
 refine (eqIntS XH m yH F XW m yW F _ hh.rdI' hw.rdI').mono ?_
 rintro e_ w23 ⟨rfl, d1⟩
 have b1 := Bw.drawn d1
 rw [decide_eq_true (rfl : F = F)]
 replace k0 := pw_cell_below b1.out k0
 replace k1 := pw_cell_below b1.out k1
 replace k2 := pw_cell_below b1.out k2
 replace k3 := pw_cell_below b1.out k3
 replace k4 := pw_cell_below b1.out k4
 replace k5 := pw_cell_below b1.out k5
 replace k6 := pw_cell_below b1.out k6
 replace g0 := pw_cell_below b1.out g0
 replace g1 := pw_cell_below b1.out g1
 replace g2 := pw_cell_below b1.out g2
 replace g3 := pw_cell_below b1.out g3
 replace g4 := pw_cell_below b1.out g4
 replace g5 := pw_cell_below b1.out g5
 replace g6 := pw_cell_below b1.out g6
 replace hw := hw.to b1
 replace hmk := hmk.to b1
 replace hh := hh.to b1
 replace hB := hB.trans b1
 have hb23 := b1.size
 clear b1 d1
 go_wp2_with fail
 refine (heldRowN XG m yG 1 (1 + (m : Nat)) _ hmk.rdI' hmm (by omega) (by omega) rfl).mono ?_
 rintro e_ w24 ⟨rfl, d1⟩
 replace hB := hB.trans (Bw.drawn d1)
 go_wp2
 go_ret
 exact ⟨rfl, hB⟩
theorem law_LocalFluxes (ro fr : Int) (A0 : Option Addr) (c0 : Nat) (l0 : List TC) (A1 : Option Addr) (c1 : Nat) (l1 : List Int) (A2 : Option Addr) (c2 : Nat) (l2 : List Int) (A3 : Option Addr) (c3 : Nat) (l3 : List Int) (A4 : Option Addr) (c4 : Nat) (l4 : List Int) (t : Int) (W : World) {P Q : Prop} (_ : P) (_ : Q)
  (h0 : Kd.C kC W A0 l0.length l0) (_ : l0.length ≤ c0) (_ : l0.length ≤ 9223372036854775807) {P0 : Prop} (_ : P0) (h1 : Kd.C kI W A1 l1.length l1) (_ : l1.length ≤ c1) (_ : l1.length ≤ 9223372036854775807) {P1 : Prop} (_ : P1) (h2 : Kd.C kI W A2 l2.length l2) (_ : l2.length ≤ c2) (_ : l2.length ≤ 9223372036854775807) {P2 : Prop} (_ : P2) (h3 : Kd.C kI W A3 l3.length l3) (_ : l3.length ≤ c3) (_ : l3.length ≤ 9223372036854775807) {P3 : Prop} (_ : P3) (h4 : Kd.C kI W A4 l4.length l4) (hc4 : l4.length ≤ c4) (_ : l4.length ≤ 9223372036854775807) {P4 : Prop} (_ : P4) (ht : (Lit.int .i64 t).wf = true) :
  Calls Try.prog 4 #[.agg #[.int .i64 ro, .int .i64 fr, .slice A0 l0.length c0, .slice A1 l1.length c1, .slice A2 l2.length c2, .slice A3 l3.length c3, .slice A4 l4.length c4], .int .i64 t] W fun e w' => e = .returned (.bool true) ∧ Bw W w' := by
 have hl : (l0.map ceOf).length = l0.length := List.length_map _
 have h := laws_FnExactLocalFluxes ⟨ro, fr, l0.map ceOf, l1, l2, l3, l4⟩ A0 c0 A1 c1 A2 c2 A3 c3 A4 c4 t W ⟨A0, c0, A1, c1, A2, c2, A3, c3, A4, c4, rfl, ⟨by show FR W 3 A0 (l0.map ceOf).length _; rw [hl]; exact (IdR.of_C h0).fr, RI.of_C h1, RI.of_C h2, RI.of_C h3, RI.of_C h4⟩, hc4⟩ (by
  have := ht
  simp [Lit.wf, IntKind.min, IntKind.max, IntKind.signed, IntKind.bits] at this
  omega)
 simp only [hl] at h
 exact h
end Go.Proofs.Ytkhjkcefkampkaa.U
