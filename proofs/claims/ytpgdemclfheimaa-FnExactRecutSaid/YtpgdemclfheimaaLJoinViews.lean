
/- The law FnExactJoinViews, walked. -/
import Derived.Test.YtpgdemclfheimaaJs
import Derived.Test.YtpgdemclfheimaaSe
import Derived.Test.YtpgdemclfheimaaG4
import Derived.Test.YtpgdemclfheimaaOv
set_option linter.unusedVariables false
set_option linter.unusedSimpArgs false
namespace Go.Proofs.Ytpgdemclfheimaa.U
open Go.RowKit Go.Lib Go.Proofs.YtpgdemclfheimaaW.PrintWords

theorem VwO.rd {w : World} {lo hi n c : Nat} {A : Option Addr} {L : List Vf} (h : VwO w lo hi (.slice A n c) n L) : VwR w A n L := by
  obtain ⟨A', c', e, r⟩ := h.reads
  injection e with e1
  subst e1
  exact r
theorem toViewS' (A : Option Addr) (n c : Nat) (L : List Vf) (w : World) (r : VwR w A n L) (hn : n + szTo L n ≤ 1048576) :
    Calls Try.prog 10 #[.slice A n c] w fun e w' => ∃ (z : Nat) (A' : Option Addr) (c' : Nat), z = w.heap.size ∧ e = .returned (.slice A' n c') ∧ VwO w' z w'.heap.size (.slice A' n c') n L ∧ Bw w w' := by
  refine (toViewS A n c L w r hn).mono ?_
  rintro e w' ⟨v, rfl, h, b⟩
  obtain ⟨A', c', rfl, _⟩ := h.reads
  exact ⟨_, _, _, rfl, rfl, h, b⟩
theorem staOk_len {ro : Int} {l : List Ce} {ms ts bd : List Int} (h : staOk ro l ms ts bd = true) : l.length ≤ 128 ∧ ms.length = l.length ∧ ts.length = l.length ∧ (bd.length : Int) ≤ 8 := by
  simp only [staOk, isBal, hasC, Bool.and_eq_true, decide_eq_true_iff] at h
  obtain ⟨⟨h1, _⟩, ⟨⟨⟨⟨h2, h3⟩, h4⟩, _⟩, _⟩, _⟩ := h
  have := meshOk_len h1
  exact ⟨this.1, h2, h3, by omega⟩
theorem joinS_small (L : List Vf) : stz (joinS L) ≤ 1000000 := by
  rw [joinS]
  split
  · rename_i h
    simp only [joinOk, Bool.and_eq_true] at h
    have := staOk_len h.2
    simp only [stz]
    omega
  · simp [stz, sta0]
theorem short_of {L : List Vf} {n : Nat} (hl : L.length = n) (hn : n + szTo L n ≤ 1048576) : Short L := ⟨fun i hi => by
  have := szTo_le L n i (by omega)
  rw [vsz] at this
  omega⟩
theorem offs_le (L : List Vf) (h3 : ∀ x ∈ L, x.lf.length % 3 = 0) : ∀ n, n ≤ L.length → offs L n ≤ 2 * n + 3 * szTo L n
  | 0, _ => by simp [offs]
  | n + 1, h => by
    have ih := offs_le L h3 n (by omega)
    have hm : gv L n ∈ L := by rw [gv_at (by omega)]; exact List.getElem_mem _
    have := h3 _ hm
    rw [offs, szTo, msz, vsz]
    omega
theorem offs_of {w : World} {A : Option Addr} {n : Nat} {L : List Vf} (r : VwR w A n L) (hn : n + szTo L n ≤ 1048576) : offs L n ≤ 1000000000 := by
  have := offs_le L r.thirds n (by rw [r.len]; omega)
  omega
theorem impl_JoinViews' (A : Option Addr) (n c : Nat) (L : List Vf) (s : Sta) (q : Bool) (w : World) (r : VwR w A n L) (hn : n + szTo L n ≤ 1048576) (hs : joinS L = s) (hq : joinOk L = q) :
    Calls Try.prog 11 #[.slice A n c] w fun e w' => ∃ (z : Nat) (A0 : Option Addr) (a0 : Nat) (A1 : Option Addr) (a1 : Nat) (A2 : Option Addr) (a2 : Nat) (A3 : Option Addr) (a3 : Nat), z = w.heap.size ∧ e = .returned (.tuple #[.agg #[.int .i64 s.ro, .slice A0 s.lv.length a0, .slice A1 s.ms.length a1, .slice A2 s.ts.length a2, .slice A3 s.bd.length a3], .bool q]) ∧ StO w' z w'.heap.size (.agg #[.int .i64 s.ro, .slice A0 s.lv.length a0, .slice A1 s.ms.length a1, .slice A2 s.ts.length a2, .slice A3 s.bd.length a3]) s ∧ Bw w w' := by
  refine (impl_JoinViews A n c L w r hn).mono ?_
  rintro e w' ⟨x, rfl, hS, b⟩
  rw [hs] at hS
  obtain ⟨A0, a0, A1, a1, A2, a2, A3, a3, rfl, _⟩ := hS.r
  rw [hq]
  exact ⟨_, _, _, _, _, _, _, _, _, rfl, rfl, hS, b⟩

theorem spec_JoinViews' (A : Option Addr) (n c : Nat) (L : List Vf) (s : Sta) (q : Bool) (w : World) (r : VwR w A n L) (hn : n + szTo L n ≤ 1048576) (hs : joinS L = s) (hq : joinOk L = q) :
    Calls Try.prog 9 #[.slice A n c] w fun e w' => ∃ (z : Nat) (A0 : Option Addr) (a0 : Nat) (A1 : Option Addr) (a1 : Nat) (A2 : Option Addr) (a2 : Nat) (A3 : Option Addr) (a3 : Nat), z = w.heap.size ∧ e = .returned (.tuple #[.agg #[.int .i64 s.ro, .slice A0 s.lv.length a0, .slice A1 s.ms.length a1, .slice A2 s.ts.length a2, .slice A3 s.bd.length a3], .bool q]) ∧ StO w' z w'.heap.size (.agg #[.int .i64 s.ro, .slice A0 s.lv.length a0, .slice A1 s.ms.length a1, .slice A2 s.ts.length a2, .slice A3 s.bd.length a3]) s ∧ Bw w w' := by
  refine (spec_JoinViews A n c L w r hn).mono ?_
  rintro e w' ⟨x, rfl, hS, b⟩
  rw [hs] at hS
  obtain ⟨A0, a0, A1, a1, A2, a2, A3, a3, rfl, _⟩ := hS.r
  rw [hq]
  exact ⟨_, _, _, _, _, _, _, _, _, rfl, rfl, hS, b⟩

set_option maxHeartbeats 8000000 in
set_option maxRecDepth 100000 in
theorem laws_FnExactJoinViews (A : Option Addr) (n c : Nat) (L : List Vf) (w : World) (r : VwR w A n L) :
    Calls Try.prog 3 #[.slice A n c] w fun e w' => e = .returned (.bool true) ∧ Bw w w' := by
  have hlen := r.len
  have hB := Bw.refl w
  go_enter Try.func3, Try.ntmps3
  go_wp2_with fail
  refine (szViewS A n c L _ r).mono ?_
  rintro e_ w1 ⟨lf, rfl, hlf, hsz, b1⟩
  replace hB := hB.trans b1
  clear b1
  by_cases hneg : lf < 0
  · have hd : decide (lf < 0) = true := decide_eq_true hneg
    clear hsz
    go_wp2
    go_ret
    exact ⟨rfl, hB⟩
  have hd : decide (lf < 0) = false := decide_eq_false hneg
  have hN := hsz (by omega)
  clear hsz hneg
  obtain ⟨s, hs⟩ : ∃ s, joinS L = s := ⟨_, rfl⟩
  obtain ⟨q, hq⟩ : ∃ q, joinOk L = q := ⟨_, rfl⟩
  have hst := joinS_small L
  rw [hs] at hst
  have hsh := short_of hlen hN
  have hof := offs_of r hN
  have HS := hid hs
  have HQ := hid hq
  have HSH := hid hsh
  have HOF := hid hof
  have hqq : (q != q) = false := by simp
  clear hs hq hsh hof
  go_wp2_with fail
  refine (toViewS' A n c L _ (r.to hB) hN).mono ?_
  rintro e_ w2 ⟨z2, AV1, cV1, hz2, rfl, V1, b1⟩
  replace hB := hB.trans b1
  have hb2 := b1.size
  clear b1
  go_wp2_with fail
  refine (spec_JoinViews' AV1 n cV1 L s q _ V1.rd hN HS.out HQ.out).mono ?_
  rintro e_ w3 ⟨z3, A0, a0, A1, a1, A2, a2, A3, a3, hz3, rfl, hw, b1⟩
  replace hB := hB.trans b1
  have hb3 := b1.size
  clear b1 V1
  have g0 := box_cell (Bw.refl (w3.alloc (.cells #[.int .i64 s.ro, .slice A0 s.lv.length a0, .slice A1 s.ms.length a1, .slice A2 s.ts.length a2, .slice A3 s.bd.length a3] 29))) 0
  have g1 := box_cell (Bw.refl (w3.alloc (.cells #[.int .i64 s.ro, .slice A0 s.lv.length a0, .slice A1 s.ms.length a1, .slice A2 s.ts.length a2, .slice A3 s.bd.length a3] 29))) 1
  have g2 := box_cell (Bw.refl (w3.alloc (.cells #[.int .i64 s.ro, .slice A0 s.lv.length a0, .slice A1 s.ms.length a1, .slice A2 s.ts.length a2, .slice A3 s.bd.length a3] 29))) 2
  have g3 := box_cell (Bw.refl (w3.alloc (.cells #[.int .i64 s.ro, .slice A0 s.lv.length a0, .slice A1 s.ms.length a1, .slice A2 s.ts.length a2, .slice A3 s.bd.length a3] 29))) 3
  have g4 := box_cell (Bw.refl (w3.alloc (.cells #[.int .i64 s.ro, .slice A0 s.lv.length a0, .slice A1 s.ms.length a1, .slice A2 s.ts.length a2, .slice A3 s.bd.length a3] 29))) 4
  simp only [List.getElem?_toArray, List.getElem?_cons_zero, List.getElem?_cons_succ] at g0 g1 g2 g3 g4
  have b1 := Bw.box1 w3 (.cells #[.int .i64 s.ro, .slice A0 s.lv.length a0, .slice A1 s.ms.length a1, .slice A2 s.ts.length a2, .slice A3 s.bd.length a3] 29)
  replace hw := hw.to b1
  replace hB := hB.trans b1
  have hb4 : (w3.alloc (.cells #[.int .i64 s.ro, .slice A0 s.lv.length a0, .slice A1 s.ms.length a1, .slice A2 s.ts.length a2, .slice A3 s.bd.length a3] 29)).heap.size = w3.heap.size + 1 := by simp
  clear b1
  go_wp2_with fail
  generalize (w3.alloc (.cells #[.int .i64 s.ro, .slice A0 s.lv.length a0, .slice A1 s.ms.length a1, .slice A2 s.ts.length a2, .slice A3 s.bd.length a3] 29)) = w4 at *
  refine (toViewS' A n c L _ (r.to hB) hN).mono ?_
  rintro e_ w5 ⟨z5, AX, cX, hz5, rfl, x0, b1⟩
  have hy5 : w.heap.size ≤ z5 := by rw [hz5]; exact hB.size
  replace g0 := pw_cell_below b1.out g0
  replace g1 := pw_cell_below b1.out g1
  replace g2 := pw_cell_below b1.out g2
  replace g3 := pw_cell_below b1.out g3
  replace g4 := pw_cell_below b1.out g4
  replace hw := hw.to b1
  replace hB := hB.trans b1
  have hb5 := b1.size
  clear b1
  go_wp2_with fail
  refine (impl_JoinViews' AX n cX L s q _ x0.rd hN HS.out HQ.out).mono ?_
  rintro e_ w6 ⟨z6, F0, f0, F1, f1, F2, f2, F3, f3, hz6, rfl, hg, b1⟩
  have hy6 : w.heap.size ≤ z6 := by rw [hz6]; exact hB.size
  replace g0 := pw_cell_below b1.out g0
  replace g1 := pw_cell_below b1.out g1
  replace g2 := pw_cell_below b1.out g2
  replace g3 := pw_cell_below b1.out g3
  replace g4 := pw_cell_below b1.out g4
  replace hw := hw.to b1
  replace x0 := x0.to b1
  replace hB := hB.trans b1
  have hb6 := b1.size
  clear b1
  have k0 := box_cell (Bw.refl (w6.alloc (.cells #[.int .i64 s.ro, .slice F0 s.lv.length f0, .slice F1 s.ms.length f1, .slice F2 s.ts.length f2, .slice F3 s.bd.length f3] 29))) 0
  have k1 := box_cell (Bw.refl (w6.alloc (.cells #[.int .i64 s.ro, .slice F0 s.lv.length f0, .slice F1 s.ms.length f1, .slice F2 s.ts.length f2, .slice F3 s.bd.length f3] 29))) 1
  have k2 := box_cell (Bw.refl (w6.alloc (.cells #[.int .i64 s.ro, .slice F0 s.lv.length f0, .slice F1 s.ms.length f1, .slice F2 s.ts.length f2, .slice F3 s.bd.length f3] 29))) 2
  have k3 := box_cell (Bw.refl (w6.alloc (.cells #[.int .i64 s.ro, .slice F0 s.lv.length f0, .slice F1 s.ms.length f1, .slice F2 s.ts.length f2, .slice F3 s.bd.length f3] 29))) 3
  have k4 := box_cell (Bw.refl (w6.alloc (.cells #[.int .i64 s.ro, .slice F0 s.lv.length f0, .slice F1 s.ms.length f1, .slice F2 s.ts.length f2, .slice F3 s.bd.length f3] 29))) 4
  simp only [List.getElem?_toArray, List.getElem?_cons_zero, List.getElem?_cons_succ] at k0 k1 k2 k3 k4
  have b1 := Bw.box1 w6 (.cells #[.int .i64 s.ro, .slice F0 s.lv.length f0, .slice F1 s.ms.length f1, .slice F2 s.ts.length f2, .slice F3 s.bd.length f3] 29)
  replace g0 := pw_cell_below b1.out g0
  replace g1 := pw_cell_below b1.out g1
  replace g2 := pw_cell_below b1.out g2
  replace g3 := pw_cell_below b1.out g3
  replace g4 := pw_cell_below b1.out g4
  replace hw := hw.to b1
  replace x0 := x0.to b1
  replace hg := hg.to b1
  replace hB := hB.trans b1
  have hb7 : (w6.alloc (.cells #[.int .i64 s.ro, .slice F0 s.lv.length f0, .slice F1 s.ms.length f1, .slice F2 s.ts.length f2, .slice F3 s.bd.length f3] 29)).heap.size = w6.heap.size + 1 := by simp
  clear b1
  go_wp2_with fail
  generalize (w6.alloc (.cells #[.int .i64 s.ro, .slice F0 s.lv.length f0, .slice F1 s.ms.length f1, .slice F2 s.ts.length f2, .slice F3 s.bd.length f3] 29)) = w7 at *
  refine (eqState_yes _ _ s _ hg.r hw.r).mono ?_
  rintro e_ w8 ⟨rfl, b1⟩
  replace g0 := pw_cell_below b1.out g0
  replace g1 := pw_cell_below b1.out g1
  replace g2 := pw_cell_below b1.out g2
  replace g3 := pw_cell_below b1.out g3
  replace g4 := pw_cell_below b1.out g4
  replace k0 := pw_cell_below b1.out k0
  replace k1 := pw_cell_below b1.out k1
  replace k2 := pw_cell_below b1.out k2
  replace k3 := pw_cell_below b1.out k3
  replace k4 := pw_cell_below b1.out k4
  replace hw := hw.to b1
  replace x0 := x0.to b1
  replace hg := hg.to b1
  replace hB := hB.trans b1
  have hb8 := b1.size
  clear b1
  go_wp2_with fail
  refine (toViewS' A n c L _ (r.to hB) hN).mono ?_
  rintro e_ w9 ⟨z9, AY, cY, hz9, rfl, y0, b1⟩
  replace g0 := pw_cell_below b1.out g0
  replace g1 := pw_cell_below b1.out g1
  replace g2 := pw_cell_below b1.out g2
  replace g3 := pw_cell_below b1.out g3
  replace g4 := pw_cell_below b1.out g4
  replace k0 := pw_cell_below b1.out k0
  replace k1 := pw_cell_below b1.out k1
  replace k2 := pw_cell_below b1.out k2
  replace k3 := pw_cell_below b1.out k3
  replace k4 := pw_cell_below b1.out k4
  replace hw := hw.to b1
  replace x0 := x0.to b1
  replace hg := hg.to b1
  replace hB := hB.trans b1
  have hb9 := b1.size
  clear b1
  go_wp2_with fail
  refine (eqViewS_yes AX n cX AY cY L _ x0.rd y0.rd).mono ?_
  rintro e_ w10 ⟨rfl, b1⟩
  replace g0 := pw_cell_below b1.out g0
  replace g1 := pw_cell_below b1.out g1
  replace g2 := pw_cell_below b1.out g2
  replace g3 := pw_cell_below b1.out g3
  replace g4 := pw_cell_below b1.out g4
  replace k0 := pw_cell_below b1.out k0
  replace k1 := pw_cell_below b1.out k1
  replace k2 := pw_cell_below b1.out k2
  replace k3 := pw_cell_below b1.out k3
  replace k4 := pw_cell_below b1.out k4
  replace hw := hw.to b1
  replace x0 := x0.to b1
  replace hg := hg.to b1
  replace hB := hB.trans b1
  have hb10 := b1.size
  clear b1 y0
  go_wp2_with fail
  refine (markViewS (.slice AX n cX) n L 1 _ z5 w5.heap.size x0 HSH.out (by omega) (by omega) HOF.out).mono ?_
  rintro e_ w11 ⟨rfl, xm, c1⟩
  clear x0
  replace g0 := cell_wi c1 g0 (by show ¬ (z5 ≤ w3.heap.size ∧ w3.heap.size < w5.heap.size); omega)
  replace g1 := cell_wi c1 g1 (by show ¬ (z5 ≤ w3.heap.size ∧ w3.heap.size < w5.heap.size); omega)
  replace g2 := cell_wi c1 g2 (by show ¬ (z5 ≤ w3.heap.size ∧ w3.heap.size < w5.heap.size); omega)
  replace g3 := cell_wi c1 g3 (by show ¬ (z5 ≤ w3.heap.size ∧ w3.heap.size < w5.heap.size); omega)
  replace g4 := cell_wi c1 g4 (by show ¬ (z5 ≤ w3.heap.size ∧ w3.heap.size < w5.heap.size); omega)
  replace k0 := cell_wi c1 k0 (by show ¬ (z5 ≤ w6.heap.size ∧ w6.heap.size < w5.heap.size); omega)
  replace k1 := cell_wi c1 k1 (by show ¬ (z5 ≤ w6.heap.size ∧ w6.heap.size < w5.heap.size); omega)
  replace k2 := cell_wi c1 k2 (by show ¬ (z5 ≤ w6.heap.size ∧ w6.heap.size < w5.heap.size); omega)
  replace k3 := cell_wi c1 k3 (by show ¬ (z5 ≤ w6.heap.size ∧ w6.heap.size < w5.heap.size); omega)
  replace k4 := cell_wi c1 k4 (by show ¬ (z5 ≤ w6.heap.size ∧ w6.heap.size < w5.heap.size); omega)
  replace hw := hw.wi c1 (by omega)
  replace hg := hg.wi c1 (by omega)
  replace hB := hB.then_wi c1 (by omega)
  have hb11 := c1.size
  clear c1 xm
  have hk0 : decide ((1 : Int) + (offs L n : Nat) < 0) = false := decide_eq_false (by omega)
  go_wp2_with fail
  refine (eqState_yes _ _ s _ hg.r hw.r).mono ?_
  rintro e_ w12 ⟨rfl, b1⟩
  replace g0 := pw_cell_below b1.out g0
  replace g1 := pw_cell_below b1.out g1
  replace g2 := pw_cell_below b1.out g2
  replace g3 := pw_cell_below b1.out g3
  replace g4 := pw_cell_below b1.out g4
  replace k0 := pw_cell_below b1.out k0
  replace k1 := pw_cell_below b1.out k1
  replace k2 := pw_cell_below b1.out k2
  replace k3 := pw_cell_below b1.out k3
  replace k4 := pw_cell_below b1.out k4
  replace hw := hw.to b1
  replace hg := hg.to b1
  replace hB := hB.trans b1
  have hb12 := b1.size
  clear b1
  go_wp2_with fail
  refine (markState (.agg #[.int .i64 s.ro, .slice F0 s.lv.length f0, .slice F1 s.ms.length f1, .slice F2 s.ts.length f2, .slice F3 s.bd.length f3]) s 1 (1 + (stz s : Nat)) _ z6 w6.heap.size hg (by omega) (by simp only [stz] at hst; omega) (by omega) (by omega) rfl).mono ?_
  rintro e_ w13 ⟨rfl, hm, c1⟩
  clear hg
  replace g0 := cell_wi c1 g0 (by show ¬ (z6 ≤ w3.heap.size ∧ w3.heap.size < w6.heap.size); omega)
  replace g1 := cell_wi c1 g1 (by show ¬ (z6 ≤ w3.heap.size ∧ w3.heap.size < w6.heap.size); omega)
  replace g2 := cell_wi c1 g2 (by show ¬ (z6 ≤ w3.heap.size ∧ w3.heap.size < w6.heap.size); omega)
  replace g3 := cell_wi c1 g3 (by show ¬ (z6 ≤ w3.heap.size ∧ w3.heap.size < w6.heap.size); omega)
  replace g4 := cell_wi c1 g4 (by show ¬ (z6 ≤ w3.heap.size ∧ w3.heap.size < w6.heap.size); omega)
  replace k0 := cell_wi c1 k0 (by show ¬ (z6 ≤ w6.heap.size ∧ w6.heap.size < w6.heap.size); omega)
  replace k1 := cell_wi c1 k1 (by show ¬ (z6 ≤ w6.heap.size ∧ w6.heap.size < w6.heap.size); omega)
  replace k2 := cell_wi c1 k2 (by show ¬ (z6 ≤ w6.heap.size ∧ w6.heap.size < w6.heap.size); omega)
  replace k3 := cell_wi c1 k3 (by show ¬ (z6 ≤ w6.heap.size ∧ w6.heap.size < w6.heap.size); omega)
  replace k4 := cell_wi c1 k4 (by show ¬ (z6 ≤ w6.heap.size ∧ w6.heap.size < w6.heap.size); omega)
  replace hw := hw.wi c1 (by omega)
  replace hB := hB.then_wi c1 (by omega)
  have hb13 := c1.size
  clear c1
  have hk1 : decide ((1 : Int) + (stz s : Nat) < 0) = false := decide_eq_false (by omega)
  have hk2 : ((1 : Int) + (stz s : Nat) != 1 + (stz s : Nat)) = false := by simp
  go_wp2_with fail
  refine (heldState (.agg #[.int .i64 s.ro, .slice F0 s.lv.length f0, .slice F1 s.ms.length f1, .slice F2 s.ts.length f2, .slice F3 s.bd.length f3]) s 1 (1 + (stz s : Nat)) _ hm.r (by simp only [stz] at hst; omega) (by omega) (by omega) rfl).mono ?_
  rintro e_ w14 ⟨rfl, b1⟩
  replace g0 := pw_cell_below b1.out g0
  replace g1 := pw_cell_below b1.out g1
  replace g2 := pw_cell_below b1.out g2
  replace g3 := pw_cell_below b1.out g3
  replace g4 := pw_cell_below b1.out g4
  replace k0 := pw_cell_below b1.out k0
  replace k1 := pw_cell_below b1.out k1
  replace k2 := pw_cell_below b1.out k2
  replace k3 := pw_cell_below b1.out k3
  replace k4 := pw_cell_below b1.out k4
  replace hw := hw.to b1
  replace hm := hm.to b1
  replace hB := hB.trans b1
  have hb14 := b1.size
  clear b1
  go_wp2_with fail
  refine (toViewS' A n c L _ (r.to hB) hN).mono ?_
  rintro e_ w15 ⟨z15, AZ, cZ, hz15, rfl, y1, b1⟩
  replace g0 := pw_cell_below b1.out g0
  replace g1 := pw_cell_below b1.out g1
  replace g2 := pw_cell_below b1.out g2
  replace g3 := pw_cell_below b1.out g3
  replace g4 := pw_cell_below b1.out g4
  replace k0 := pw_cell_below b1.out k0
  replace k1 := pw_cell_below b1.out k1
  replace k2 := pw_cell_below b1.out k2
  replace k3 := pw_cell_below b1.out k3
  replace k4 := pw_cell_below b1.out k4
  replace hw := hw.to b1
  replace hm := hm.to b1
  replace hB := hB.trans b1
  have hb15 := b1.size
  clear b1
  go_wp2_with fail
  refine (impl_JoinViews' AZ n cZ L s q _ y1.rd hN HS.out HQ.out).mono ?_
  rintro e_ w16 ⟨z16, U0, u0, U1, u1, U2, u2, U3, u3, hz16, rfl, hh, b1⟩
  replace g0 := pw_cell_below b1.out g0
  replace g1 := pw_cell_below b1.out g1
  replace g2 := pw_cell_below b1.out g2
  replace g3 := pw_cell_below b1.out g3
  replace g4 := pw_cell_below b1.out g4
  replace k0 := pw_cell_below b1.out k0
  replace k1 := pw_cell_below b1.out k1
  replace k2 := pw_cell_below b1.out k2
  replace k3 := pw_cell_below b1.out k3
  replace k4 := pw_cell_below b1.out k4
  replace hw := hw.to b1
  replace hm := hm.to b1
  replace hB := hB.trans b1
  have hb16 := b1.size
  clear b1 y1
  have m0 := box_cell (Bw.refl (w16.alloc (.cells #[.int .i64 s.ro, .slice U0 s.lv.length u0, .slice U1 s.ms.length u1, .slice U2 s.ts.length u2, .slice U3 s.bd.length u3] 29))) 0
  have m1 := box_cell (Bw.refl (w16.alloc (.cells #[.int .i64 s.ro, .slice U0 s.lv.length u0, .slice U1 s.ms.length u1, .slice U2 s.ts.length u2, .slice U3 s.bd.length u3] 29))) 1
  have m2 := box_cell (Bw.refl (w16.alloc (.cells #[.int .i64 s.ro, .slice U0 s.lv.length u0, .slice U1 s.ms.length u1, .slice U2 s.ts.length u2, .slice U3 s.bd.length u3] 29))) 2
  have m3 := box_cell (Bw.refl (w16.alloc (.cells #[.int .i64 s.ro, .slice U0 s.lv.length u0, .slice U1 s.ms.length u1, .slice U2 s.ts.length u2, .slice U3 s.bd.length u3] 29))) 3
  have m4 := box_cell (Bw.refl (w16.alloc (.cells #[.int .i64 s.ro, .slice U0 s.lv.length u0, .slice U1 s.ms.length u1, .slice U2 s.ts.length u2, .slice U3 s.bd.length u3] 29))) 4
  simp only [List.getElem?_toArray, List.getElem?_cons_zero, List.getElem?_cons_succ] at m0 m1 m2 m3 m4
  have b1 := Bw.box1 w16 (.cells #[.int .i64 s.ro, .slice U0 s.lv.length u0, .slice U1 s.ms.length u1, .slice U2 s.ts.length u2, .slice U3 s.bd.length u3] 29)
  replace g0 := pw_cell_below b1.out g0
  replace g1 := pw_cell_below b1.out g1
  replace g2 := pw_cell_below b1.out g2
  replace g3 := pw_cell_below b1.out g3
  replace g4 := pw_cell_below b1.out g4
  replace k0 := pw_cell_below b1.out k0
  replace k1 := pw_cell_below b1.out k1
  replace k2 := pw_cell_below b1.out k2
  replace k3 := pw_cell_below b1.out k3
  replace k4 := pw_cell_below b1.out k4
  replace hw := hw.to b1
  replace hm := hm.to b1
  replace hh := hh.to b1
  replace hB := hB.trans b1
  clear b1
  go_wp2_with fail
  generalize (w16.alloc (.cells #[.int .i64 s.ro, .slice U0 s.lv.length u0, .slice U1 s.ms.length u1, .slice U2 s.ts.length u2, .slice U3 s.bd.length u3] 29)) = w17 at *
  refine (eqState_yes _ _ s _ hh.r hw.r).mono ?_
  rintro e_ w18 ⟨rfl, b1⟩
  replace g0 := pw_cell_below b1.out g0
  replace g1 := pw_cell_below b1.out g1
  replace g2 := pw_cell_below b1.out g2
  replace g3 := pw_cell_below b1.out g3
  replace g4 := pw_cell_below b1.out g4
  replace k0 := pw_cell_below b1.out k0
  replace k1 := pw_cell_below b1.out k1
  replace k2 := pw_cell_below b1.out k2
  replace k3 := pw_cell_below b1.out k3
  replace k4 := pw_cell_below b1.out k4
  replace m0 := pw_cell_below b1.out m0
  replace m1 := pw_cell_below b1.out m1
  replace m2 := pw_cell_below b1.out m2
  replace m3 := pw_cell_below b1.out m3
  replace m4 := pw_cell_below b1.out m4
  replace hw := hw.to b1
  replace hm := hm.to b1
  replace hh := hh.to b1
  replace hB := hB.trans b1
  clear b1
  go_wp2_with fail
  refine (heldState (.agg #[.int .i64 s.ro, .slice F0 s.lv.length f0, .slice F1 s.ms.length f1, .slice F2 s.ts.length f2, .slice F3 s.bd.length f3]) s 1 (1 + (stz s : Nat)) _ hm.r (by simp only [stz] at hst; omega) (by omega) (by omega) rfl).mono ?_
  rintro e_ w19 ⟨rfl, b1⟩
  replace hB := hB.trans b1
  go_wp2
  go_ret
  exact ⟨rfl, hB⟩

theorem law_JoinViews (A : Option Addr) (c : Nat) (l : List TV) (w : World) (h : Kd.C kV w A l.length l) (_ : l.length ≤ c) (_ : l.length ≤ 9223372036854775807) {P : Prop} (_ : P) :
    Calls Try.prog 3 #[.slice A l.length c] w fun e w' => e = .returned (.bool true) ∧ Bw w w' :=
  laws_FnExactJoinViews A l.length c (l.map vfOf) w (VwR.of_C h)
end Go.Proofs.Ytpgdemclfheimaa.U
