
/- Views: sizes, comparison. -/
import Derived.Test.YtkhjkcefkampkaaG3
set_option linter.unusedVariables false
set_option linter.unusedSimpArgs false
namespace Go.Proofs.Ytkhjkcefkampkaa.U
open Go.RowKit Go.Lib Go.Proofs.YtkhjkcefkampkaaW.PrintWords
structure Vf where
 ro : Int
 fr : Int
 lf : List Int
 ms : List Int
 ts : List Int
 bd : List Int
 gh : List Int
def vz : Vf := ⟨0, 0, [], [], [], [], []⟩
def gv (L : List Vf) (j : Nat) : Vf := L.getD j vz
theorem gv_at {L : List Vf} {j : Nat} (h : j < L.length) : gv L j = L[j] := by rw [gv, List.getD_eq_getElem?_getD, List.getElem?_eq_getElem h]; rfl
structure VA (w : World) (Al : Option Addr) (nl : Nat) (Am : Option Addr) (nm : Nat) (At : Option Addr) (nt : Nat) (Ab : Option Addr) (nb : Nat) (Ag : Option Addr) (ng : Nat) (x : Vf) : Prop where
 l : FR w 3 Al nl x.lf
 m : RI w Am nm x.ms
 t : RI w At nt x.ts
 b : RI w Ab nb x.bd
 g : RI w Ag ng x.gh
def VC (w : World) (ad : Addr) (x : Vf) : Prop := ∃ (Al : Option Addr) (nl cl : Nat) (Am : Option Addr) (nm cm : Nat) (At : Option Addr) (nt ct : Nat) (Ab : Option Addr) (nb cb : Nat) (Ag : Option Addr) (ng cg : Nat),
  w.cell? ad = some (.int .i64 x.ro) ∧ w.cell? ⟨ad.block, ad.off + 1, none⟩ = some (.int .i64 x.fr) ∧
  w.cell? ⟨ad.block, ad.off + 2, none⟩ = some (.slice Al nl cl) ∧
  w.cell? ⟨ad.block, ad.off + 3, none⟩ = some (.slice Am nm cm) ∧
  w.cell? ⟨ad.block, ad.off + 4, none⟩ = some (.slice At nt ct) ∧
  w.cell? ⟨ad.block, ad.off + 5, none⟩ = some (.slice Ab nb cb) ∧
  w.cell? ⟨ad.block, ad.off + 6, none⟩ = some (.slice Ag ng cg) ∧ (nl ≤ cl ∧ nm ≤ cm ∧ nt ≤ ct ∧ nb ≤ cb ∧ ng ≤ cg) ∧ VA w Al nl Am nm At nt Ab nb Ag ng x
structure VwR (w : World) (A : Option Addr) (n : Nat) (L : List Vf) : Prop where
 len : L.length = n
 max : n ≤ 9223372036854775807
 at_ : 0 < n → ∃ ad, A = some ad ∧ ∀ j, j < n → VC w (ad.add (j * 7)) (gv L j)
theorem VA.to {w w' : World} {Al : Option Addr} {nl : Nat} {Am : Option Addr} {nm : Nat} {At : Option Addr} {nt : Nat} {Ab : Option Addr} {nb : Nat} {Ag : Option Addr} {ng : Nat} {x : Vf} (h : VA w Al nl Am nm At nt Ab nb Ag ng x) (b : Bw w w') : VA w' Al nl Am nm At nt Ab nb Ag ng x := ⟨h.l.to b, h.m.to b, h.t.to b, h.b.to b, h.g.to b⟩
theorem VC.to {w w' : World} {ad : Addr} {x : Vf} (h : VC w ad x) (b : Bw w w') : VC w' ad x := by
 obtain ⟨Al, nl, cl, Am, nm, cm, At, nt, ct, Ab, nb, cb, Ag, ng, cg, k0, k1, k2, k3, k4, k5, k6, hc, hv⟩ := h
 exact ⟨Al, nl, cl, Am, nm, cm, At, nt, ct, Ab, nb, cb, Ag, ng, cg, pw_cell_below b.out k0, pw_cell_below b.out k1, pw_cell_below b.out k2, pw_cell_below b.out k3, pw_cell_below b.out k4, pw_cell_below b.out k5, pw_cell_below b.out k6, hc, hv.to b⟩
theorem VwR.to {w w' : World} {A : Option Addr} {n : Nat} {L : List Vf} (h : VwR w A n L) (b : Bw w w') : VwR w' A n L := ⟨h.len, h.max, fun hn => by
 obtain ⟨ad, e, hc⟩ := h.at_ hn
 exact ⟨ad, e, fun j hj => (hc j hj).to b⟩⟩
theorem VwR.nat {w : World} {A : Option Addr} {n : Nat} {L : List Vf} (h : VwR w A n L) (j : Nat) (hj : j < n) : ∃ ad, A = some ad ∧ VC w (ad.add (j * 7)) (gv L j) := by
 obtain ⟨ad, e, hc⟩ := h.at_ (by omega)
 exact ⟨ad, e, hc j hj⟩
set_option maxHeartbeats 4000000 in
theorem szView (ro fr : Int) (Al : Option Addr) (nl cl : Nat) (Am : Option Addr) (nm cm : Nat) (At : Option Addr) (nt ct : Nat) (Ab : Option Addr) (nb cb : Nat) (Ag : Option Addr) (ng cg : Nat) (left : Int) (S : Nat) (w : World) (h0 : nl ≤ 9223372036854775807) (h1 : nm ≤ 9223372036854775807) (h2 : nt ≤ 9223372036854775807) (h3 : nb ≤ 9223372036854775807) (h4 : ng ≤ 9223372036854775807) (hl : 0 ≤ left ∧ left ≤ 1048576) (hS : S = nl + nm + nt + nb + ng) :
  Calls Try.prog 15 #[.agg #[.int .i64 ro, .int .i64 fr, .slice Al nl cl, .slice Am nm cm, .slice At nt ct, .slice Ab nb cb, .slice Ag ng cg], .int .i64 left] w fun e w' => e = .returned (.int .i64 (if left - (S : Int) < 0 then -1 else left - S)) ∧ Bw w w' := by
 have b0 := Bw.box1 w (.cells #[.int .i64 ro, .int .i64 fr, .slice Al nl cl, .slice Am nm cm, .slice At nt ct, .slice Ab nb cb, .slice Ag ng cg] 33)
 have g0 := box_cell (Bw.refl (w.alloc (.cells #[.int .i64 ro, .int .i64 fr, .slice Al nl cl, .slice Am nm cm, .slice At nt ct, .slice Ab nb cb, .slice Ag ng cg] 33))) 0
 have g1 := box_cell (Bw.refl (w.alloc (.cells #[.int .i64 ro, .int .i64 fr, .slice Al nl cl, .slice Am nm cm, .slice At nt ct, .slice Ab nb cb, .slice Ag ng cg] 33))) 1
 have g2 := box_cell (Bw.refl (w.alloc (.cells #[.int .i64 ro, .int .i64 fr, .slice Al nl cl, .slice Am nm cm, .slice At nt ct, .slice Ab nb cb, .slice Ag ng cg] 33))) 2
 have g3 := box_cell (Bw.refl (w.alloc (.cells #[.int .i64 ro, .int .i64 fr, .slice Al nl cl, .slice Am nm cm, .slice At nt ct, .slice Ab nb cb, .slice Ag ng cg] 33))) 3
 have g4 := box_cell (Bw.refl (w.alloc (.cells #[.int .i64 ro, .int .i64 fr, .slice Al nl cl, .slice Am nm cm, .slice At nt ct, .slice Ab nb cb, .slice Ag ng cg] 33))) 4
 have g5 := box_cell (Bw.refl (w.alloc (.cells #[.int .i64 ro, .int .i64 fr, .slice Al nl cl, .slice Am nm cm, .slice At nt ct, .slice Ab nb cb, .slice Ag ng cg] 33))) 5
 have g6 := box_cell (Bw.refl (w.alloc (.cells #[.int .i64 ro, .int .i64 fr, .slice Al nl cl, .slice Am nm cm, .slice At nt ct, .slice Ab nb cb, .slice Ag ng cg] 33))) 6
 simp only [List.getElem?_toArray, List.getElem?_cons_zero, List.getElem?_cons_succ] at g0 g1 g2 g3 g4 g5 g6
 rw [show (if left - (S : Int) < 0 then (-1 : Int) else left - S) = (if left - (nl : Int) - (nm : Int) - (nt : Int) - (nb : Int) - (ng : Int) < 0 then -1 else left - (nl : Int) - (nm : Int) - (nt : Int) - (nb : Int) - (ng : Int)) by rw [hS]; push_cast; (repeat' split) <;> omega]
 by_cases q0 : left - (nl : Int) < 0
 ·rw [if_pos (by omega)]
  go_enter Try.func15, Try.ntmps15
  go_wp2_with fail
  refine (szIdS _ _ _ _ _ h0 (by omega)).mono ?_
  rintro e w' ⟨rfl, rfl⟩
  rw [if_pos (by omega)]
  go_wp2
  go_ret
  exact ⟨rfl, b0⟩
 ·by_cases q1 : left - (nl : Int) - (nm : Int) < 0
  ·rw [if_pos (by omega)]
   go_enter Try.func15, Try.ntmps15
   go_wp2_with fail
   refine (szIdS _ _ _ _ _ h0 (by omega)).mono ?_
   rintro e w' ⟨rfl, rfl⟩
   rw [if_neg (by omega)]
   go_wp2_with fail
   refine (szIntS _ _ _ _ _ h1 (by omega)).mono ?_
   rintro e w' ⟨rfl, rfl⟩
   rw [if_pos (by omega)]
   go_wp2
   go_ret
   exact ⟨rfl, b0⟩
  ·by_cases q2 : left - (nl : Int) - (nm : Int) - (nt : Int) < 0
   ·rw [if_pos (by omega)]
    go_enter Try.func15, Try.ntmps15
    go_wp2_with fail
    refine (szIdS _ _ _ _ _ h0 (by omega)).mono ?_
    rintro e w' ⟨rfl, rfl⟩
    rw [if_neg (by omega)]
    go_wp2_with fail
    refine (szIntS _ _ _ _ _ h1 (by omega)).mono ?_
    rintro e w' ⟨rfl, rfl⟩
    rw [if_neg (by omega)]
    go_wp2_with fail
    refine (szIntS _ _ _ _ _ h2 (by omega)).mono ?_
    rintro e w' ⟨rfl, rfl⟩
    rw [if_pos (by omega)]
    go_wp2
    go_ret
    exact ⟨rfl, b0⟩
   ·by_cases q3 : left - (nl : Int) - (nm : Int) - (nt : Int) - (nb : Int) < 0
    ·rw [if_pos (by omega)]
     go_enter Try.func15, Try.ntmps15
     go_wp2_with fail
     refine (szIdS _ _ _ _ _ h0 (by omega)).mono ?_
     rintro e w' ⟨rfl, rfl⟩
     rw [if_neg (by omega)]
     go_wp2_with fail
     refine (szIntS _ _ _ _ _ h1 (by omega)).mono ?_
     rintro e w' ⟨rfl, rfl⟩
     rw [if_neg (by omega)]
     go_wp2_with fail
     refine (szIntS _ _ _ _ _ h2 (by omega)).mono ?_
     rintro e w' ⟨rfl, rfl⟩
     rw [if_neg (by omega)]
     go_wp2_with fail
     refine (szIntS _ _ _ _ _ h3 (by omega)).mono ?_
     rintro e w' ⟨rfl, rfl⟩
     rw [if_pos (by omega)]
     go_wp2
     go_ret
     exact ⟨rfl, b0⟩
    ·by_cases q4 : left - (nl : Int) - (nm : Int) - (nt : Int) - (nb : Int) - (ng : Int) < 0
     ·rw [if_pos (by omega)]
      go_enter Try.func15, Try.ntmps15
      go_wp2_with fail
      refine (szIdS _ _ _ _ _ h0 (by omega)).mono ?_
      rintro e w' ⟨rfl, rfl⟩
      rw [if_neg (by omega)]
      go_wp2_with fail
      refine (szIntS _ _ _ _ _ h1 (by omega)).mono ?_
      rintro e w' ⟨rfl, rfl⟩
      rw [if_neg (by omega)]
      go_wp2_with fail
      refine (szIntS _ _ _ _ _ h2 (by omega)).mono ?_
      rintro e w' ⟨rfl, rfl⟩
      rw [if_neg (by omega)]
      go_wp2_with fail
      refine (szIntS _ _ _ _ _ h3 (by omega)).mono ?_
      rintro e w' ⟨rfl, rfl⟩
      rw [if_neg (by omega)]
      go_wp2_with fail
      refine (szIntS _ _ _ _ _ h4 (by omega)).mono ?_
      rintro e w' ⟨rfl, rfl⟩
      rw [if_pos (by omega)]
      go_wp2
      go_ret
      exact ⟨rfl, b0⟩
     ·rw [if_neg (by omega)]
      go_enter Try.func15, Try.ntmps15
      go_wp2_with fail
      refine (szIdS _ _ _ _ _ h0 (by omega)).mono ?_
      rintro e w' ⟨rfl, rfl⟩
      rw [if_neg (by omega)]
      go_wp2_with fail
      refine (szIntS _ _ _ _ _ h1 (by omega)).mono ?_
      rintro e w' ⟨rfl, rfl⟩
      rw [if_neg (by omega)]
      go_wp2_with fail
      refine (szIntS _ _ _ _ _ h2 (by omega)).mono ?_
      rintro e w' ⟨rfl, rfl⟩
      rw [if_neg (by omega)]
      go_wp2_with fail
      refine (szIntS _ _ _ _ _ h3 (by omega)).mono ?_
      rintro e w' ⟨rfl, rfl⟩
      rw [if_neg (by omega)]
      go_wp2_with fail
      refine (szIntS _ _ _ _ _ h4 (by omega)).mono ?_
      rintro e w' ⟨rfl, rfl⟩
      rw [if_neg (by omega)]
      go_wp2
      go_ret
      exact ⟨rfl, b0⟩
theorem unF : ∀ (n : Nat) (F : List Int), F.length = n * 3 → ∃ l, idF l = F ∧ l.length = n
 | 0, F, h => ⟨[], by rw [List.length_eq_zero_iff.1 (by omega : F.length = 0)]; rfl, rfl⟩
 | n + 1, a :: b :: c :: F, h => by
  obtain ⟨l, h1, h2⟩ := unF n F (by simp at h; omega)
  exact ⟨⟨a, b, c⟩ :: l, by rw [idF_cons, h1], by simp [h2]⟩
 | n + 1, [], h => by simp at h
 | n + 1, [_], h => by simp at h; omega
 | n + 1, [_, _], h => by simp at h; omega
set_option maxHeartbeats 4000000 in
set_option maxRecDepth 100000 in
theorem eqView_yes (ro fr : Int) (Al : Option Addr) (nl cl : Nat) (Am : Option Addr) (nm cm : Nat) (At : Option Addr) (nt ct : Nat) (Ab : Option Addr) (nb cb : Nat) (Ag : Option Addr) (ng cg : Nat) (Bl : Option Addr) (dl : Nat) (Bm : Option Addr) (dm : Nat) (Bt : Option Addr) (dt : Nat) (Bb : Option Addr) (db : Nat) (Bg : Option Addr) (dg : Nat) (x : Vf) (w : World) (r : VA w Al nl Am nm At nt Ab nb Ag ng x) (q : VA w Bl nl Bm nm Bt nt Bb nb Bg ng x) :
  Calls Try.prog 20 #[.agg #[.int .i64 ro, .int .i64 fr, .slice Al nl cl, .slice Am nm cm, .slice At nt ct, .slice Ab nb cb, .slice Ag ng cg], .agg #[.int .i64 ro, .int .i64 fr, .slice Bl nl dl, .slice Bm nm dm, .slice Bt nt dt, .slice Bb nb db, .slice Bg ng dg]] w fun e w' => e = .returned (.bool true) ∧ Bw w w' := by
 obtain ⟨lv, hlv, _⟩ := unF nl x.lf r.l.len
 obtain ⟨r, q⟩ : (∃ _ : VA w Al nl Am nm At nt Ab nb Ag ng ⟨x.ro, x.fr, idF lv, x.ms, x.ts, x.bd, x.gh⟩, VA w Bl nl Bm nm Bt nt Bb nb Bg ng ⟨x.ro, x.fr, idF lv, x.ms, x.ts, x.bd, x.gh⟩) := by rw [hlv]; exact ⟨⟨r.l, r.m, r.t, r.b, r.g⟩, ⟨q.l, q.m, q.t, q.b, q.g⟩⟩
 have b0 := ((Bw.refl w).alloc (.cells #[.int .i64 ro, .int .i64 fr, .slice Al nl cl, .slice Am nm cm, .slice At nt ct, .slice Ab nb cb, .slice Ag ng cg] 38)).alloc (.cells #[.int .i64 ro, .int .i64 fr, .slice Bl nl dl, .slice Bm nm dm, .slice Bt nt dt, .slice Bb nb db, .slice Bg ng dg] 38)
 have g0 := box_cell ((Bw.refl (w.alloc (.cells #[.int .i64 ro, .int .i64 fr, .slice Al nl cl, .slice Am nm cm, .slice At nt ct, .slice Ab nb cb, .slice Ag ng cg] 38))).alloc (.cells #[.int .i64 ro, .int .i64 fr, .slice Bl nl dl, .slice Bm nm dm, .slice Bt nt dt, .slice Bb nb db, .slice Bg ng dg] 38)) 0
 have g1 := box_cell ((Bw.refl (w.alloc (.cells #[.int .i64 ro, .int .i64 fr, .slice Al nl cl, .slice Am nm cm, .slice At nt ct, .slice Ab nb cb, .slice Ag ng cg] 38))).alloc (.cells #[.int .i64 ro, .int .i64 fr, .slice Bl nl dl, .slice Bm nm dm, .slice Bt nt dt, .slice Bb nb db, .slice Bg ng dg] 38)) 1
 have g2 := box_cell ((Bw.refl (w.alloc (.cells #[.int .i64 ro, .int .i64 fr, .slice Al nl cl, .slice Am nm cm, .slice At nt ct, .slice Ab nb cb, .slice Ag ng cg] 38))).alloc (.cells #[.int .i64 ro, .int .i64 fr, .slice Bl nl dl, .slice Bm nm dm, .slice Bt nt dt, .slice Bb nb db, .slice Bg ng dg] 38)) 2
 have g3 := box_cell ((Bw.refl (w.alloc (.cells #[.int .i64 ro, .int .i64 fr, .slice Al nl cl, .slice Am nm cm, .slice At nt ct, .slice Ab nb cb, .slice Ag ng cg] 38))).alloc (.cells #[.int .i64 ro, .int .i64 fr, .slice Bl nl dl, .slice Bm nm dm, .slice Bt nt dt, .slice Bb nb db, .slice Bg ng dg] 38)) 3
 have g4 := box_cell ((Bw.refl (w.alloc (.cells #[.int .i64 ro, .int .i64 fr, .slice Al nl cl, .slice Am nm cm, .slice At nt ct, .slice Ab nb cb, .slice Ag ng cg] 38))).alloc (.cells #[.int .i64 ro, .int .i64 fr, .slice Bl nl dl, .slice Bm nm dm, .slice Bt nt dt, .slice Bb nb db, .slice Bg ng dg] 38)) 4
 have g5 := box_cell ((Bw.refl (w.alloc (.cells #[.int .i64 ro, .int .i64 fr, .slice Al nl cl, .slice Am nm cm, .slice At nt ct, .slice Ab nb cb, .slice Ag ng cg] 38))).alloc (.cells #[.int .i64 ro, .int .i64 fr, .slice Bl nl dl, .slice Bm nm dm, .slice Bt nt dt, .slice Bb nb db, .slice Bg ng dg] 38)) 5
 have g6 := box_cell ((Bw.refl (w.alloc (.cells #[.int .i64 ro, .int .i64 fr, .slice Al nl cl, .slice Am nm cm, .slice At nt ct, .slice Ab nb cb, .slice Ag ng cg] 38))).alloc (.cells #[.int .i64 ro, .int .i64 fr, .slice Bl nl dl, .slice Bm nm dm, .slice Bt nt dt, .slice Bb nb db, .slice Bg ng dg] 38)) 6
 have k0 := box_cell (Bw.refl ((w.alloc (.cells #[.int .i64 ro, .int .i64 fr, .slice Al nl cl, .slice Am nm cm, .slice At nt ct, .slice Ab nb cb, .slice Ag ng cg] 38)).alloc (.cells #[.int .i64 ro, .int .i64 fr, .slice Bl nl dl, .slice Bm nm dm, .slice Bt nt dt, .slice Bb nb db, .slice Bg ng dg] 38))) 0
 have k1 := box_cell (Bw.refl ((w.alloc (.cells #[.int .i64 ro, .int .i64 fr, .slice Al nl cl, .slice Am nm cm, .slice At nt ct, .slice Ab nb cb, .slice Ag ng cg] 38)).alloc (.cells #[.int .i64 ro, .int .i64 fr, .slice Bl nl dl, .slice Bm nm dm, .slice Bt nt dt, .slice Bb nb db, .slice Bg ng dg] 38))) 1
 have k2 := box_cell (Bw.refl ((w.alloc (.cells #[.int .i64 ro, .int .i64 fr, .slice Al nl cl, .slice Am nm cm, .slice At nt ct, .slice Ab nb cb, .slice Ag ng cg] 38)).alloc (.cells #[.int .i64 ro, .int .i64 fr, .slice Bl nl dl, .slice Bm nm dm, .slice Bt nt dt, .slice Bb nb db, .slice Bg ng dg] 38))) 2
 have k3 := box_cell (Bw.refl ((w.alloc (.cells #[.int .i64 ro, .int .i64 fr, .slice Al nl cl, .slice Am nm cm, .slice At nt ct, .slice Ab nb cb, .slice Ag ng cg] 38)).alloc (.cells #[.int .i64 ro, .int .i64 fr, .slice Bl nl dl, .slice Bm nm dm, .slice Bt nt dt, .slice Bb nb db, .slice Bg ng dg] 38))) 3
 have k4 := box_cell (Bw.refl ((w.alloc (.cells #[.int .i64 ro, .int .i64 fr, .slice Al nl cl, .slice Am nm cm, .slice At nt ct, .slice Ab nb cb, .slice Ag ng cg] 38)).alloc (.cells #[.int .i64 ro, .int .i64 fr, .slice Bl nl dl, .slice Bm nm dm, .slice Bt nt dt, .slice Bb nb db, .slice Bg ng dg] 38))) 4
 have k5 := box_cell (Bw.refl ((w.alloc (.cells #[.int .i64 ro, .int .i64 fr, .slice Al nl cl, .slice Am nm cm, .slice At nt ct, .slice Ab nb cb, .slice Ag ng cg] 38)).alloc (.cells #[.int .i64 ro, .int .i64 fr, .slice Bl nl dl, .slice Bm nm dm, .slice Bt nt dt, .slice Bb nb db, .slice Bg ng dg] 38))) 5
 have k6 := box_cell (Bw.refl ((w.alloc (.cells #[.int .i64 ro, .int .i64 fr, .slice Al nl cl, .slice Am nm cm, .slice At nt ct, .slice Ab nb cb, .slice Ag ng cg] 38)).alloc (.cells #[.int .i64 ro, .int .i64 fr, .slice Bl nl dl, .slice Bm nm dm, .slice Bt nt dt, .slice Bb nb db, .slice Bg ng dg] 38))) 6
 simp only [List.getElem?_toArray, List.getElem?_cons_zero, List.getElem?_cons_succ] at g0 g1 g2 g3 g4 g5 g6 k0 k1 k2 k3 k4 k5 k6
 rw [show (w.alloc (.cells #[.int .i64 ro, .int .i64 fr, .slice Al nl cl, .slice Am nm cm, .slice At nt ct, .slice Ab nb cb, .slice Ag ng cg] 38)).heap.size = w.heap.size + 1 by simp] at k0 k1 k2 k3 k4 k5 k6
 have t1 : (ro != ro) = false := by simp
 have t2 : (fr != fr) = false := by simp
 go_enter Try.func20, Try.ntmps20
 go_wp2_with fail
 refine (eqIdS_yes Al nl cl Bl dl lv _ (r.l.id.to b0) (q.l.id.to b0)).mono ?_
 rintro e w1 ⟨rfl, b1⟩
 replace g0 := pw_cell_below b1.out g0
 replace g1 := pw_cell_below b1.out g1
 replace g2 := pw_cell_below b1.out g2
 replace g3 := pw_cell_below b1.out g3
 replace g4 := pw_cell_below b1.out g4
 replace g5 := pw_cell_below b1.out g5
 replace g6 := pw_cell_below b1.out g6
 replace k0 := pw_cell_below b1.out k0
 replace k1 := pw_cell_below b1.out k1
 replace k2 := pw_cell_below b1.out k2
 replace k3 := pw_cell_below b1.out k3
 replace k4 := pw_cell_below b1.out k4
 replace k5 := pw_cell_below b1.out k5
 replace k6 := pw_cell_below b1.out k6
 replace b0 := b0.trans b1
 clear b1
 go_wp2_with fail
 refine (eqIntS Am nm cm x.ms Bm nm dm x.ms _ (r.m.to b0) (q.m.to b0)).mono ?_
 rintro e w1 ⟨rfl, d1⟩
 have b1 := Bw.drawn d1
 rw [decide_eq_true (rfl : x.ms = x.ms)]
 replace g0 := pw_cell_below b1.out g0
 replace g1 := pw_cell_below b1.out g1
 replace g2 := pw_cell_below b1.out g2
 replace g3 := pw_cell_below b1.out g3
 replace g4 := pw_cell_below b1.out g4
 replace g5 := pw_cell_below b1.out g5
 replace g6 := pw_cell_below b1.out g6
 replace k0 := pw_cell_below b1.out k0
 replace k1 := pw_cell_below b1.out k1
 replace k2 := pw_cell_below b1.out k2
 replace k3 := pw_cell_below b1.out k3
 replace k4 := pw_cell_below b1.out k4
 replace k5 := pw_cell_below b1.out k5
 replace k6 := pw_cell_below b1.out k6
 replace b0 := b0.trans b1
 clear b1 d1
 go_wp2_with fail
 refine (eqIntS At nt ct x.ts Bt nt dt x.ts _ (r.t.to b0) (q.t.to b0)).mono ?_
 rintro e w1 ⟨rfl, d1⟩
 have b1 := Bw.drawn d1
 rw [decide_eq_true (rfl : x.ts = x.ts)]
 replace g0 := pw_cell_below b1.out g0
 replace g1 := pw_cell_below b1.out g1
 replace g2 := pw_cell_below b1.out g2
 replace g3 := pw_cell_below b1.out g3
 replace g4 := pw_cell_below b1.out g4
 replace g5 := pw_cell_below b1.out g5
 replace g6 := pw_cell_below b1.out g6
 replace k0 := pw_cell_below b1.out k0
 replace k1 := pw_cell_below b1.out k1
 replace k2 := pw_cell_below b1.out k2
 replace k3 := pw_cell_below b1.out k3
 replace k4 := pw_cell_below b1.out k4
 replace k5 := pw_cell_below b1.out k5
 replace k6 := pw_cell_below b1.out k6
 replace b0 := b0.trans b1
 clear b1 d1
 go_wp2_with fail
 refine (eqIntS Ab nb cb x.bd Bb nb db x.bd _ (r.b.to b0) (q.b.to b0)).mono ?_
 rintro e w1 ⟨rfl, d1⟩
 have b1 := Bw.drawn d1
 rw [decide_eq_true (rfl : x.bd = x.bd)]
 replace g0 := pw_cell_below b1.out g0
 replace g1 := pw_cell_below b1.out g1
 replace g2 := pw_cell_below b1.out g2
 replace g3 := pw_cell_below b1.out g3
 replace g4 := pw_cell_below b1.out g4
 replace g5 := pw_cell_below b1.out g5
 replace g6 := pw_cell_below b1.out g6
 replace k0 := pw_cell_below b1.out k0
 replace k1 := pw_cell_below b1.out k1
 replace k2 := pw_cell_below b1.out k2
 replace k3 := pw_cell_below b1.out k3
 replace k4 := pw_cell_below b1.out k4
 replace k5 := pw_cell_below b1.out k5
 replace k6 := pw_cell_below b1.out k6
 replace b0 := b0.trans b1
 clear b1 d1
 go_wp2_with fail
 refine (eqIntS Ag ng cg x.gh Bg ng dg x.gh _ (r.g.to b0) (q.g.to b0)).mono ?_
 rintro e w1 ⟨rfl, d1⟩
 have b1 := Bw.drawn d1
 rw [decide_eq_true (rfl : x.gh = x.gh)]
 replace g0 := pw_cell_below b1.out g0
 replace g1 := pw_cell_below b1.out g1
 replace g2 := pw_cell_below b1.out g2
 replace g3 := pw_cell_below b1.out g3
 replace g4 := pw_cell_below b1.out g4
 replace g5 := pw_cell_below b1.out g5
 replace g6 := pw_cell_below b1.out g6
 replace k0 := pw_cell_below b1.out k0
 replace k1 := pw_cell_below b1.out k1
 replace k2 := pw_cell_below b1.out k2
 replace k3 := pw_cell_below b1.out k3
 replace k4 := pw_cell_below b1.out k4
 replace k5 := pw_cell_below b1.out k5
 replace k6 := pw_cell_below b1.out k6
 replace b0 := b0.trans b1
 clear b1 d1
 go_wp2
 go_ret
 exact ⟨rfl, b0⟩
end Go.Proofs.Ytkhjkcefkampkaa.U
