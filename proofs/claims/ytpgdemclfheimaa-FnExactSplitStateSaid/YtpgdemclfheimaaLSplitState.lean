
/- The law FnExactSplitState, walked. -/
import Derived.Test.YtpgdemclfheimaaSx
import Derived.Test.YtpgdemclfheimaaTs
import Derived.Test.YtpgdemclfheimaaLJoinViews
set_option linter.unusedVariables false
set_option linter.unusedSimpArgs false
namespace Go.Proofs.Ytpgdemclfheimaa.U
open Go.RowKit Go.Lib Go.Proofs.YtpgdemclfheimaaW.PrintWords

open Go.Proofs.YtpgdemclfheimaaW.PrintLast Go.Proofs.YtpgdemclfheimaaW.PrintMore
theorem Rw.rdI' {w : World} {lo hi n c : Nat} {A : Option Addr} {F : List Int} (h : Rw w lo hi 3 1 (.slice A n c) n F) : RI w A n F := (FO.fr h.o).ri
theorem toIntSz (A : Option Addr) (n c : Nat) (l : List Int) (w : World) (r : RI w A n l) (hn : n ≤ 1048576) :
    Calls Try.prog 20 #[.slice A n c] w fun e w' => ∃ (z : Nat) (X : Option Addr) (y : Nat), z = w.heap.size ∧ e = .returned (.slice X n y) ∧ Rw w' z w'.heap.size 3 1 (.slice X n y) n l ∧ Bw w w' := by
  refine (toIntS A n c l w r hn).mono ?_
  rintro e w' ⟨v, rfl, o, b⟩
  obtain ⟨X, y, rfl, _, _⟩ := FO.reads (t := 3) (k := 1) ⟨o.out⟩
  exact ⟨_, _, _, rfl, rfl, OI.rw o, b⟩
theorem partV_small (s : Sta) (p q : Nat) (hs : StF s) : (partV s p q).lf.length ≤ 400 ∧ (partV s p q).ms.length ≤ 128 ∧ (partV s p q).ts.length ≤ 128 ∧ (partV s p q).bd.length ≤ 8 ∧ (partV s p q).gh.length ≤ 8 := by
  have h1 := hs.n
  have h2 := hs.ms
  have h3 := hs.ts
  have h4 := hs.bd
  have e1 : (partV s p q).lf.length = ((s.lv.take q).drop p).length * 3 := idF_length _
  have e2 : (partV s p q).gh.length = 8 := ghosts_len s p q
  simp only [partV, List.length_drop, List.length_take] at *
  omega
theorem parts_all (s : Sta) (cuts : List Int) (hs : StF s) (i : Nat) (hi : i < (parts s cuts).length) : (gv (parts s cuts) i).lf.length ≤ 400 ∧ (gv (parts s cuts) i).ms.length ≤ 128 ∧ (gv (parts s cuts) i).ts.length ≤ 128 ∧ (gv (parts s cuts) i).bd.length ≤ 8 ∧ (gv (parts s cuts) i).gh.length ≤ 8 := by
  rw [parts_at s cuts i (by rwa [parts_length] at hi)]
  exact partV_small s _ _ hs
theorem parts_short (s : Sta) (cuts : List Int) (hs : StF s) : Short (parts s cuts) := ⟨fun i hi => by
  have := parts_all s cuts hs i hi
  omega⟩
theorem parts_offs (s : Sta) (cuts : List Int) (hs : StF s) : ∀ n, n ≤ (parts s cuts).length → offs (parts s cuts) n ≤ 1000 * n
  | 0, _ => by simp [offs]
  | n + 1, h => by
    have ih := parts_offs s cuts hs n (by omega)
    have := parts_all s cuts hs n (by omega)
    rw [offs, msz]
    omega
theorem parts_most (s : Sta) (cuts : List Int) {n : Int} (hc : cutsOk n cuts = true) : (parts s cuts).length ≤ 16 := by
  have := (cutsOk_facts hc).1
  rw [parts_length]
  omega
theorem toState' (x : Value) (s : Sta) (w : World) (hx : StR w x s) (h0 : s.lv.length ≤ 1048576) (h1 : s.ms.length ≤ 1048576) (h2 : s.ts.length ≤ 1048576) (h3 : s.bd.length ≤ 1048576) :
    Calls Try.prog 19 #[x] w fun e w' => ∃ (z : Nat) (A0 : Option Addr) (a0 : Nat) (A1 : Option Addr) (a1 : Nat) (A2 : Option Addr) (a2 : Nat) (A3 : Option Addr) (a3 : Nat), z = w.heap.size ∧ e = .returned (.agg #[.int .i64 s.ro, .slice A0 s.lv.length a0, .slice A1 s.ms.length a1, .slice A2 s.ts.length a2, .slice A3 s.bd.length a3]) ∧ StO w' z w'.heap.size (.agg #[.int .i64 s.ro, .slice A0 s.lv.length a0, .slice A1 s.ms.length a1, .slice A2 s.ts.length a2, .slice A3 s.bd.length a3]) s ∧ Bw w w' := by
  refine (toState x s w hx h0 h1 h2 h3).mono ?_
  rintro e w' ⟨v, rfl, hS, b⟩
  obtain ⟨A0, a0, A1, a1, A2, a2, A3, a3, rfl, _⟩ := hS.r
  exact ⟨_, _, _, _, _, _, _, _, _, rfl, rfl, hS, b⟩
theorem splitS_short (s : Sta) (cuts : List Int) : Short (splitS s cuts) := by
  rw [splitS]
  split
  · rename_i h
    simp only [Bool.and_eq_true] at h
    exact parts_short s cuts (StF.of h.1)
  · exact ⟨fun i hi => by simp at hi⟩
theorem splitS_offs (s : Sta) (cuts : List Int) : offs (splitS s cuts) (splitS s cuts).length ≤ 1000000000 := by
  rw [splitS]
  split
  · rename_i h
    simp only [Bool.and_eq_true] at h
    have h1 := parts_offs s cuts (StF.of h.1) _ (Nat.le_refl _)
    have h2 := parts_most s cuts h.2
    omega
  · simp [offs]
theorem impl_SplitState' (x : Value) (s : Sta) (C : Option Addr) (n c : Nat) (cuts : List Int) (F : List Vf) (m : Nat) (w : World) (hx : StC w x s) (r : RI w C n cuts) (hF : splitS s cuts = F) (hm : F.length = m) :
    Calls Try.prog 21 #[x, .slice C n c] w fun e w' => ∃ (z : Nat) (X : Option Addr) (y : Nat), z = w.heap.size ∧ e = .returned (.slice X m y) ∧ VwO w' z w'.heap.size (.slice X m y) m F ∧ Bw w w' := by
  refine (impl_SplitState x s C n c cuts w hx r).mono ?_
  rintro e w' ⟨v, rfl, hV, b⟩
  rw [hF, hm] at hV
  obtain ⟨X, y, rfl, _⟩ := hV.reads
  exact ⟨_, _, _, rfl, rfl, hV, b⟩
theorem spec_SplitState' (x : Value) (s : Sta) (C : Option Addr) (n c : Nat) (cuts : List Int) (F : List Vf) (m : Nat) (w : World) (hx : StC w x s) (r : RI w C n cuts) (hF : splitS s cuts = F) (hm : F.length = m) :
    Calls Try.prog 18 #[x, .slice C n c] w fun e w' => ∃ (z : Nat) (X : Option Addr) (y : Nat), z = w.heap.size ∧ e = .returned (.slice X m y) ∧ VwO w' z w'.heap.size (.slice X m y) m F ∧ Bw w w' := by
  refine (spec_SplitState x s C n c cuts w hx r).mono ?_
  rintro e w' ⟨v, rfl, hV, b⟩
  rw [hF, hm] at hV
  obtain ⟨X, y, rfl, _⟩ := hV.reads
  exact ⟨_, _, _, rfl, rfl, hV, b⟩
set_option maxHeartbeats 8000000 in
set_option maxRecDepth 100000 in
theorem laws_FnExactSplitState (s : Sta) (A0 : Option Addr) (c0 : Nat) (A1 : Option Addr) (c1 : Nat) (A2 : Option Addr) (c2 : Nat) (A3 : Option Addr) (c3 : Nat) (C : Option Addr) (n c : Nat) (cuts : List Int) (w : World) (hx0 : StR w (.agg #[.int .i64 s.ro, .slice A0 s.lv.length c0, .slice A1 s.ms.length c1, .slice A2 s.ts.length c2, .slice A3 s.bd.length c3]) s) (cuts_rd : RI w C n cuts) :
    Calls Try.prog 4 #[.agg #[.int .i64 s.ro, .slice A0 s.lv.length c0, .slice A1 s.ms.length c1, .slice A2 s.ts.length c2, .slice A3 s.bd.length c3], .slice C n c] w fun e w' => e = .returned (.bool true) ∧ Bw w w' := by
  have hmx := cuts_rd.max
  have hB := Bw.box1 w (.cells #[.int .i64 s.ro, .slice A0 s.lv.length c0, .slice A1 s.ms.length c1, .slice A2 s.ts.length c2, .slice A3 s.bd.length c3] 43)
  have k0 := box_cell (Bw.refl (w.alloc (.cells #[.int .i64 s.ro, .slice A0 s.lv.length c0, .slice A1 s.ms.length c1, .slice A2 s.ts.length c2, .slice A3 s.bd.length c3] 43))) 0
  have k1 := box_cell (Bw.refl (w.alloc (.cells #[.int .i64 s.ro, .slice A0 s.lv.length c0, .slice A1 s.ms.length c1, .slice A2 s.ts.length c2, .slice A3 s.bd.length c3] 43))) 1
  have k2 := box_cell (Bw.refl (w.alloc (.cells #[.int .i64 s.ro, .slice A0 s.lv.length c0, .slice A1 s.ms.length c1, .slice A2 s.ts.length c2, .slice A3 s.bd.length c3] 43))) 2
  have k3 := box_cell (Bw.refl (w.alloc (.cells #[.int .i64 s.ro, .slice A0 s.lv.length c0, .slice A1 s.ms.length c1, .slice A2 s.ts.length c2, .slice A3 s.bd.length c3] 43))) 3
  have k4 := box_cell (Bw.refl (w.alloc (.cells #[.int .i64 s.ro, .slice A0 s.lv.length c0, .slice A1 s.ms.length c1, .slice A2 s.ts.length c2, .slice A3 s.bd.length c3] 43))) 4
  simp only [List.getElem?_toArray, List.getElem?_cons_zero, List.getElem?_cons_succ] at k0 k1 k2 k3 k4
  have hz0 : (w.alloc (.cells #[.int .i64 s.ro, .slice A0 s.lv.length c0, .slice A1 s.ms.length c1, .slice A2 s.ts.length c2, .slice A3 s.bd.length c3] 43)).heap.size = w.heap.size + 1 := by simp
  have hx := StR.to hx0 hB
  by_cases hbig : n > 1048576
  · have hd : decide ((n : Int) > 1048576) = true := decide_eq_true (by omega)
    go_enter Try.func4, Try.ntmps4
    go_wp2
    go_ret
    exact ⟨rfl, hB⟩
  have hd0 : decide ((n : Int) > 1048576) = false := decide_eq_false (by omega)
  go_enter Try.func4, Try.ntmps4
  go_wp2_with fail
  generalize (w.alloc (.cells #[.int .i64 s.ro, .slice A0 s.lv.length c0, .slice A1 s.ms.length c1, .slice A2 s.ts.length c2, .slice A3 s.bd.length c3] 43)) = w1 at *
  refine (szState _ s _ hx).mono ?_
  rintro e_ w2 ⟨lf, rfl, hlf, hsz, b1⟩
  replace k0 := pw_cell_below b1.out k0
  replace k1 := pw_cell_below b1.out k1
  replace k2 := pw_cell_below b1.out k2
  replace k3 := pw_cell_below b1.out k3
  replace k4 := pw_cell_below b1.out k4
  replace hB := hB.trans b1
  have hb2 := b1.size
  clear b1
  by_cases hneg : lf < 0
  · have hd : decide (lf < 0) = true := decide_eq_true hneg
    clear hsz
    go_wp2
    go_ret
    exact ⟨rfl, hB⟩
  have hd : decide (lf < 0) = false := decide_eq_false hneg
  have hN := hsz (by omega)
  clear hsz hneg
  obtain ⟨F, hF⟩ : ∃ F, splitS s cuts = F := ⟨_, rfl⟩
  obtain ⟨m, hm⟩ : ∃ m, F.length = m := ⟨_, rfl⟩
  have hsh : Short F := by rw [← hF]; exact splitS_short s cuts
  have hof : offs F m ≤ 1000000000 := by rw [← hm, ← hF]; exact splitS_offs s cuts
  have HF := hid hF
  have HM := hid hm
  have HSH := hid hsh
  have HOF := hid hof
  have HCU := hid cuts_rd
  clear hF hm hsh hof cuts_rd
  go_wp2_with fail
  refine (toState' _ s _ (StR.to hx0 hB) (by omega) (by omega) (by omega) (by omega)).mono ?_
  rintro e_ w3 ⟨z3, P0, p0, P1, p1, P2, p2, P3, p3, hz3, rfl, hv, b1⟩
  have hy3 : w.heap.size + 1 ≤ z3 := by rw [hz3]; omega
  replace k0 := pw_cell_below b1.out k0
  replace k1 := pw_cell_below b1.out k1
  replace k2 := pw_cell_below b1.out k2
  replace k3 := pw_cell_below b1.out k3
  replace k4 := pw_cell_below b1.out k4
  replace hB := hB.trans b1
  have hb3 := b1.size
  clear b1
  go_wp2_with fail
  refine (toIntSz C n c cuts _ (HCU.out.to hB) (by omega)).mono ?_
  rintro e_ w4 ⟨z4, XI, yI, hz4, rfl, hi, b1⟩
  have hy4 : w.heap.size + 1 ≤ z4 := by rw [hz4]; omega
  replace k0 := pw_cell_below b1.out k0
  replace k1 := pw_cell_below b1.out k1
  replace k2 := pw_cell_below b1.out k2
  replace k3 := pw_cell_below b1.out k3
  replace k4 := pw_cell_below b1.out k4
  replace hv := hv.to b1
  replace hB := hB.trans b1
  have hb4 := b1.size
  clear b1
  go_wp2_with fail
  refine (spec_SplitState' _ s XI n yI cuts F m _ hv.c hi.rdI' HF.out HM.out).mono ?_
  rintro e_ w5 ⟨z5, XW, yW, hz5, rfl, hw, b1⟩
  have hy5 : w.heap.size + 1 ≤ z5 := by rw [hz5]; omega
  replace k0 := pw_cell_below b1.out k0
  replace k1 := pw_cell_below b1.out k1
  replace k2 := pw_cell_below b1.out k2
  replace k3 := pw_cell_below b1.out k3
  replace k4 := pw_cell_below b1.out k4
  replace hv := hv.to b1
  replace hi := hi.to b1
  replace hB := hB.trans b1
  have hb5 := b1.size
  clear b1
  clear hv hi
  go_wp2_with fail
  refine (toState' _ s _ (StR.to hx0 hB) (by omega) (by omega) (by omega) (by omega)).mono ?_
  rintro e_ w6 ⟨z6, F0, f0, F1, f1, F2, f2, F3, f3, hz6, rfl, x0, b1⟩
  have hy6 : w.heap.size + 1 ≤ z6 := by rw [hz6]; omega
  replace k0 := pw_cell_below b1.out k0
  replace k1 := pw_cell_below b1.out k1
  replace k2 := pw_cell_below b1.out k2
  replace k3 := pw_cell_below b1.out k3
  replace k4 := pw_cell_below b1.out k4
  replace hw := hw.to b1
  replace hB := hB.trans b1
  have hb6 := b1.size
  clear b1
  have g0 := box_cell (Bw.refl (w6.alloc (.cells #[.int .i64 s.ro, .slice F0 s.lv.length f0, .slice F1 s.ms.length f1, .slice F2 s.ts.length f2, .slice F3 s.bd.length f3] 29))) 0
  have g1 := box_cell (Bw.refl (w6.alloc (.cells #[.int .i64 s.ro, .slice F0 s.lv.length f0, .slice F1 s.ms.length f1, .slice F2 s.ts.length f2, .slice F3 s.bd.length f3] 29))) 1
  have g2 := box_cell (Bw.refl (w6.alloc (.cells #[.int .i64 s.ro, .slice F0 s.lv.length f0, .slice F1 s.ms.length f1, .slice F2 s.ts.length f2, .slice F3 s.bd.length f3] 29))) 2
  have g3 := box_cell (Bw.refl (w6.alloc (.cells #[.int .i64 s.ro, .slice F0 s.lv.length f0, .slice F1 s.ms.length f1, .slice F2 s.ts.length f2, .slice F3 s.bd.length f3] 29))) 3
  have g4 := box_cell (Bw.refl (w6.alloc (.cells #[.int .i64 s.ro, .slice F0 s.lv.length f0, .slice F1 s.ms.length f1, .slice F2 s.ts.length f2, .slice F3 s.bd.length f3] 29))) 4
  simp only [List.getElem?_toArray, List.getElem?_cons_zero, List.getElem?_cons_succ] at g0 g1 g2 g3 g4
  have b1 := Bw.box1 w6 (.cells #[.int .i64 s.ro, .slice F0 s.lv.length f0, .slice F1 s.ms.length f1, .slice F2 s.ts.length f2, .slice F3 s.bd.length f3] 29)
  replace k0 := pw_cell_below b1.out k0
  replace k1 := pw_cell_below b1.out k1
  replace k2 := pw_cell_below b1.out k2
  replace k3 := pw_cell_below b1.out k3
  replace k4 := pw_cell_below b1.out k4
  replace hw := hw.to b1
  replace x0 := x0.to b1
  replace hB := hB.trans b1
  have hb7 : (w6.alloc (.cells #[.int .i64 s.ro, .slice F0 s.lv.length f0, .slice F1 s.ms.length f1, .slice F2 s.ts.length f2, .slice F3 s.bd.length f3] 29)).heap.size = w6.heap.size + 1 := by simp
  clear b1
  go_wp2_with fail
  generalize (w6.alloc (.cells #[.int .i64 s.ro, .slice F0 s.lv.length f0, .slice F1 s.ms.length f1, .slice F2 s.ts.length f2, .slice F3 s.bd.length f3] 29)) = w7 at *
  refine (toIntSz C n c cuts _ (HCU.out.to hB) (by omega)).mono ?_
  rintro e_ w8 ⟨z8, XJ, yJ, hz8, rfl, x1, b1⟩
  have hy8 : w.heap.size + 1 ≤ z8 := by rw [hz8]; omega
  replace k0 := pw_cell_below b1.out k0
  replace k1 := pw_cell_below b1.out k1
  replace k2 := pw_cell_below b1.out k2
  replace k3 := pw_cell_below b1.out k3
  replace k4 := pw_cell_below b1.out k4
  replace g0 := pw_cell_below b1.out g0
  replace g1 := pw_cell_below b1.out g1
  replace g2 := pw_cell_below b1.out g2
  replace g3 := pw_cell_below b1.out g3
  replace g4 := pw_cell_below b1.out g4
  replace hw := hw.to b1
  replace x0 := x0.to b1
  replace hB := hB.trans b1
  have hb8 := b1.size
  clear b1
  go_wp2_with fail
  refine (impl_SplitState' _ s XJ n yJ cuts F m _ x0.c x1.rdI' HF.out HM.out).mono ?_
  rintro e_ w9 ⟨z9, XG, yG, hz9, rfl, hg, b1⟩
  have hy9 : w.heap.size + 1 ≤ z9 := by rw [hz9]; omega
  replace k0 := pw_cell_below b1.out k0
  replace k1 := pw_cell_below b1.out k1
  replace k2 := pw_cell_below b1.out k2
  replace k3 := pw_cell_below b1.out k3
  replace k4 := pw_cell_below b1.out k4
  replace g0 := pw_cell_below b1.out g0
  replace g1 := pw_cell_below b1.out g1
  replace g2 := pw_cell_below b1.out g2
  replace g3 := pw_cell_below b1.out g3
  replace g4 := pw_cell_below b1.out g4
  replace hw := hw.to b1
  replace x0 := x0.to b1
  replace x1 := x1.to b1
  replace hB := hB.trans b1
  have hb9 := b1.size
  clear b1
  go_wp2_with fail
  refine (eqViewS_yes XG m yG XW yW F _ hg.rd hw.rd).mono ?_
  rintro e_ w10 ⟨rfl, b1⟩
  replace k0 := pw_cell_below b1.out k0
  replace k1 := pw_cell_below b1.out k1
  replace k2 := pw_cell_below b1.out k2
  replace k3 := pw_cell_below b1.out k3
  replace k4 := pw_cell_below b1.out k4
  replace g0 := pw_cell_below b1.out g0
  replace g1 := pw_cell_below b1.out g1
  replace g2 := pw_cell_below b1.out g2
  replace g3 := pw_cell_below b1.out g3
  replace g4 := pw_cell_below b1.out g4
  replace hw := hw.to b1
  replace x0 := x0.to b1
  replace x1 := x1.to b1
  replace hg := hg.to b1
  replace hB := hB.trans b1
  have hb10 := b1.size
  clear b1
  go_wp2
  refine start_ (n := 5) (S := fun w' => w'.cell? ⟨w.heap.size, 0, none⟩ = some (.int .i64 s.ro) ∧ w'.cell? ⟨w.heap.size, 1, none⟩ = some (.slice A0 s.lv.length c0) ∧ w'.cell? ⟨w.heap.size, 2, none⟩ = some (.slice A1 s.ms.length c1) ∧ w'.cell? ⟨w.heap.size, 3, none⟩ = some (.slice A2 s.ts.length c2) ∧ w'.cell? ⟨w.heap.size, 4, none⟩ = some (.slice A3 s.bd.length c3) ∧ w'.cell? ⟨w6.heap.size, 0, none⟩ = some (.int .i64 s.ro) ∧ w'.cell? ⟨w6.heap.size, 1, none⟩ = some (.slice F0 s.lv.length f0) ∧ w'.cell? ⟨w6.heap.size, 2, none⟩ = some (.slice F1 s.ms.length f1) ∧ w'.cell? ⟨w6.heap.size, 3, none⟩ = some (.slice F2 s.ts.length f2) ∧ w'.cell? ⟨w6.heap.size, 4, none⟩ = some (.slice F3 s.bd.length f3)) (ds := [4]) #[false, false, false, false, false] (by kernel_rfl) rfl rfl ⟨k0, k1, k2, k3, k4, g0, g1, g2, g3, g4⟩ (fun hHeld => ?_)
  refine take_ (i := 0) (N := (some 38)) (v := ?_) (a' := ?_) #[true, false, false, false, false] rfl rfl (by kernel_rfl) (fun _ _ _ h => h) (Or.inl ⟨by rfl, ?_⟩) hHeld ?_ ?_
  rotate_left
  · rintro w' ⟨s0, s1, s2, s3, s4, s5, s6, s7, s8, s9⟩
    go_simp
    with_reducible rfl
  rotate_left
  · simp only [Act.put, List.setIfInBounds_toArray, List.set_cons_zero, List.set_cons_succ, i64_w, i32_w]
    rfl
  refine take_ (i := 1) (N := (some 39)) (v := ?_) (a' := ?_) #[true, true, false, false, false] rfl rfl (by kernel_rfl) (fun _ _ _ h => h) (Or.inl ⟨by rfl, ?_⟩) hHeld ?_ ?_
  rotate_left
  · rintro w' ⟨s0, s1, s2, s3, s4, s5, s6, s7, s8, s9⟩
    go_simp
    with_reducible rfl
  rotate_left
  · simp only [Act.put, List.setIfInBounds_toArray, List.set_cons_zero, List.set_cons_succ, i64_w, i32_w]
    rfl
  clear hHeld
  refine one_ (i := 2) (N := (some 40)) #[true, true, true, false, false] rfl rfl (by kernel_rfl) (by decide) (fun K hK => ?_)
  refine goes_ Try.func19 (by kernel_rfl) rfl #[.agg #[.int .i64 s.ro, .slice A0 s.lv.length c0, .slice A1 s.ms.length c1, .slice A2 s.ts.length c2, .slice A3 s.bd.length c3]] (by rfl) rfl rfl (by (try simp only [List.map_toArray, List.map_cons, List.map_nil]); first | done | rfl) ?_
  refine (toState' _ s _ (StR.to hx0 (hB.trans (Bw.drawn ⟨⟨1, rfl⟩⟩))) (by omega) (by omega) (by omega) (by omega)).mono ?_
  rintro e wa ⟨z11, Q0, q0, Q1, q1, Q2, q2, Q3, q3, hz11, rfl, y0, ba⟩
  refine ⟨_, rfl, ?_⟩
  have b1 := (Bw.drawn (a := w10) ⟨⟨1, rfl⟩⟩).trans ba
  clear ba
  have hy11 : w.heap.size + 1 ≤ z11 := by rw [hz11]; have := hB.size; have := (Bw.drawn (a := w10) ⟨⟨1, rfl⟩⟩).size; omega
  replace k0 := pw_cell_below b1.out k0
  replace k1 := pw_cell_below b1.out k1
  replace k2 := pw_cell_below b1.out k2
  replace k3 := pw_cell_below b1.out k3
  replace k4 := pw_cell_below b1.out k4
  replace g0 := pw_cell_below b1.out g0
  replace g1 := pw_cell_below b1.out g1
  replace g2 := pw_cell_below b1.out g2
  replace g3 := pw_cell_below b1.out g3
  replace g4 := pw_cell_below b1.out g4
  replace hw := hw.to b1
  replace x0 := x0.to b1
  replace x1 := x1.to b1
  replace hg := hg.to b1
  replace hB := hB.trans b1
  have hb11 := b1.size
  clear b1
  refine hK.out _ _ ⟨k0, k1, k2, k3, k4, g0, g1, g2, g3, g4⟩ (fun _ => ?_)
  rename_i hJ_
  clear hJ_
  clear hK K
  refine norm_ (a' := ?_) ?_ ?_
  rotate_left
  · show Act.put _ (some 40) _ = _
    simp only [Act.put, List.setIfInBounds_toArray, List.set_cons_zero, List.set_cons_succ, i64_w, i32_w]
    rfl
  refine one_ (i := 3) (N := (some 41)) #[true, true, true, true, false] rfl rfl (by kernel_rfl) (by decide) (fun K hK => ?_)
  refine goes_ Try.func12 (by kernel_rfl) rfl #[.agg #[.int .i64 s.ro, .slice F0 s.lv.length f0, .slice F1 s.ms.length f1, .slice F2 s.ts.length f2, .slice F3 s.bd.length f3], .agg #[.int .i64 s.ro, .slice Q0 s.lv.length q0, .slice Q1 s.ms.length q1, .slice Q2 s.ts.length q2, .slice Q3 s.bd.length q3]] (by rfl) rfl rfl (by (try simp only [List.map_toArray, List.map_cons, List.map_nil]); first | done | rfl) ?_
  refine (eqState_yes _ _ s _ x0.r y0.r).mono ?_
  rintro e wb ⟨rfl, b1⟩
  refine ⟨_, rfl, ?_⟩
  replace k0 := pw_cell_below b1.out k0
  replace k1 := pw_cell_below b1.out k1
  replace k2 := pw_cell_below b1.out k2
  replace k3 := pw_cell_below b1.out k3
  replace k4 := pw_cell_below b1.out k4
  replace g0 := pw_cell_below b1.out g0
  replace g1 := pw_cell_below b1.out g1
  replace g2 := pw_cell_below b1.out g2
  replace g3 := pw_cell_below b1.out g3
  replace g4 := pw_cell_below b1.out g4
  replace hw := hw.to b1
  replace x0 := x0.to b1
  replace x1 := x1.to b1
  replace hg := hg.to b1
  replace y0 := y0.to b1
  replace hB := hB.trans b1
  have hb12 := b1.size
  clear b1
  refine hK.out _ _ ⟨k0, k1, k2, k3, k4, g0, g1, g2, g3, g4⟩ (fun _ => ?_)
  rename_i hJ_
  clear hJ_
  clear hK K
  refine norm_ (a' := ?_) ?_ ?_
  rotate_left
  · show Act.put _ (some 41) _ = _
    simp only [Act.put, List.setIfInBounds_toArray, List.set_cons_zero, List.set_cons_succ, i64_w, i32_w]
    rfl
  refine last_ (i := 4) (N := (some 42)) #[true, true, true, true, true] rfl rfl (by kernel_rfl) (by decide) (fun K hK => ?_)
  refine value_ (w1 := ?_) (v := ?_) (by rfl) rfl ?_ ?_
  rotate_left 2
  · go_simp
    constructor
    · rfl
    · rfl
  refine hK.out _ _ ?_
  clear hK K
  refine norm_ (a' := ?_) ?_ ?_
  rotate_left
  · show Act.put _ (some 42) _ = _
    simp only [Act.put, List.setIfInBounds_toArray, List.set_cons_zero, List.set_cons_succ, i64_w, i32_w]
    rfl
  refine done_ (by kernel_rfl) ?_
  clear y0
  go_wp2_with fail
  refine (toIntSz C n c cuts _ (HCU.out.to hB) (by omega)).mono ?_
  rintro e_ w13 ⟨z13, XK, yK, hz13, rfl, y1, b1⟩
  have hy13 : w.heap.size + 1 ≤ z13 := by rw [hz13]; omega
  replace k0 := pw_cell_below b1.out k0
  replace k1 := pw_cell_below b1.out k1
  replace k2 := pw_cell_below b1.out k2
  replace k3 := pw_cell_below b1.out k3
  replace k4 := pw_cell_below b1.out k4
  replace g0 := pw_cell_below b1.out g0
  replace g1 := pw_cell_below b1.out g1
  replace g2 := pw_cell_below b1.out g2
  replace g3 := pw_cell_below b1.out g3
  replace g4 := pw_cell_below b1.out g4
  replace hw := hw.to b1
  replace x0 := x0.to b1
  replace x1 := x1.to b1
  replace hg := hg.to b1
  replace hB := hB.trans b1
  have hb13 := b1.size
  clear b1
  go_wp2_with fail
  refine (eqIntS XJ n yJ cuts XK n yK cuts _ x1.rdI' y1.rdI').mono ?_
  rintro e_ w14 ⟨rfl, d1⟩
  have b1 := Bw.drawn d1
  rw [decide_eq_true (rfl : cuts = cuts)]
  replace k0 := pw_cell_below b1.out k0
  replace k1 := pw_cell_below b1.out k1
  replace k2 := pw_cell_below b1.out k2
  replace k3 := pw_cell_below b1.out k3
  replace k4 := pw_cell_below b1.out k4
  replace g0 := pw_cell_below b1.out g0
  replace g1 := pw_cell_below b1.out g1
  replace g2 := pw_cell_below b1.out g2
  replace g3 := pw_cell_below b1.out g3
  replace g4 := pw_cell_below b1.out g4
  replace hw := hw.to b1
  replace x0 := x0.to b1
  replace x1 := x1.to b1
  replace hg := hg.to b1
  replace y1 := y1.to b1
  replace hB := hB.trans b1
  have hb14 := b1.size
  clear b1 d1
  clear y1
  have hst : stz s ≤ 1048576 * 3 := by simp only [stz]; omega
  go_wp2_with fail
  refine (markState (.agg #[.int .i64 s.ro, .slice F0 s.lv.length f0, .slice F1 s.ms.length f1, .slice F2 s.ts.length f2, .slice F3 s.bd.length f3]) s 1 (1 + (stz s : Nat)) _ z6 w6.heap.size x0 (by omega) (by omega) (by omega) (by omega) rfl).mono ?_
  rintro e_ w15 ⟨rfl, hmx, c1⟩
  clear x0 hmx
  replace k0 := cell_wi c1 k0 (by show ¬ (z6 ≤ w.heap.size ∧ w.heap.size < w6.heap.size); omega)
  replace k1 := cell_wi c1 k1 (by show ¬ (z6 ≤ w.heap.size ∧ w.heap.size < w6.heap.size); omega)
  replace k2 := cell_wi c1 k2 (by show ¬ (z6 ≤ w.heap.size ∧ w.heap.size < w6.heap.size); omega)
  replace k3 := cell_wi c1 k3 (by show ¬ (z6 ≤ w.heap.size ∧ w.heap.size < w6.heap.size); omega)
  replace k4 := cell_wi c1 k4 (by show ¬ (z6 ≤ w.heap.size ∧ w.heap.size < w6.heap.size); omega)
  replace g0 := cell_wi c1 g0 (by show ¬ (z6 ≤ w6.heap.size ∧ w6.heap.size < w6.heap.size); omega)
  replace g1 := cell_wi c1 g1 (by show ¬ (z6 ≤ w6.heap.size ∧ w6.heap.size < w6.heap.size); omega)
  replace g2 := cell_wi c1 g2 (by show ¬ (z6 ≤ w6.heap.size ∧ w6.heap.size < w6.heap.size); omega)
  replace g3 := cell_wi c1 g3 (by show ¬ (z6 ≤ w6.heap.size ∧ w6.heap.size < w6.heap.size); omega)
  replace g4 := cell_wi c1 g4 (by show ¬ (z6 ≤ w6.heap.size ∧ w6.heap.size < w6.heap.size); omega)
  replace hw := hw.wi c1 (by omega)
  replace x1 := x1.wi c1 (by omega)
  replace hg := hg.wi c1 (by omega)
  replace hB := hB.then_wi c1 (by omega)
  have hb15 := c1.size
  clear c1
  go_wp2_with fail
  refine (markRowN (.slice XJ n yJ) n cuts (1 + (stz s : Nat)) (1 + (stz s : Nat) + (n : Nat)) _ z8 w8.heap.size x1 (by omega) (by omega) (by omega) rfl).mono ?_
  rintro e_ w16 ⟨rfl, hmi, hgr⟩
  have c1 := hmi.chg' x1 hgr
  clear x1 hgr hmi
  replace k0 := cell_wi c1 k0 (by show ¬ (z8 ≤ w.heap.size ∧ w.heap.size < w8.heap.size); omega)
  replace k1 := cell_wi c1 k1 (by show ¬ (z8 ≤ w.heap.size ∧ w.heap.size < w8.heap.size); omega)
  replace k2 := cell_wi c1 k2 (by show ¬ (z8 ≤ w.heap.size ∧ w.heap.size < w8.heap.size); omega)
  replace k3 := cell_wi c1 k3 (by show ¬ (z8 ≤ w.heap.size ∧ w.heap.size < w8.heap.size); omega)
  replace k4 := cell_wi c1 k4 (by show ¬ (z8 ≤ w.heap.size ∧ w.heap.size < w8.heap.size); omega)
  replace g0 := cell_wi c1 g0 (by show ¬ (z8 ≤ w6.heap.size ∧ w6.heap.size < w8.heap.size); omega)
  replace g1 := cell_wi c1 g1 (by show ¬ (z8 ≤ w6.heap.size ∧ w6.heap.size < w8.heap.size); omega)
  replace g2 := cell_wi c1 g2 (by show ¬ (z8 ≤ w6.heap.size ∧ w6.heap.size < w8.heap.size); omega)
  replace g3 := cell_wi c1 g3 (by show ¬ (z8 ≤ w6.heap.size ∧ w6.heap.size < w8.heap.size); omega)
  replace g4 := cell_wi c1 g4 (by show ¬ (z8 ≤ w6.heap.size ∧ w6.heap.size < w8.heap.size); omega)
  replace hw := hw.wi c1 (by omega)
  replace hg := hg.wi c1 (by omega)
  replace hB := hB.then_wi c1 (by omega)
  have hb16 := c1.size
  clear c1
  have hk0 : decide ((1 : Int) + (stz s : Nat) + (n : Nat) < 0) = false := decide_eq_false (by omega)
  go_wp2_with fail
  refine (eqViewS_yes XG m yG XW yW F _ hg.rd hw.rd).mono ?_
  rintro e_ w17 ⟨rfl, b1⟩
  replace k0 := pw_cell_below b1.out k0
  replace k1 := pw_cell_below b1.out k1
  replace k2 := pw_cell_below b1.out k2
  replace k3 := pw_cell_below b1.out k3
  replace k4 := pw_cell_below b1.out k4
  replace g0 := pw_cell_below b1.out g0
  replace g1 := pw_cell_below b1.out g1
  replace g2 := pw_cell_below b1.out g2
  replace g3 := pw_cell_below b1.out g3
  replace g4 := pw_cell_below b1.out g4
  replace hw := hw.to b1
  replace hg := hg.to b1
  replace hB := hB.trans b1
  have hb17 := b1.size
  clear b1
  go_wp2_with fail
  refine (markViewS (.slice XG m yG) m F 1 _ z9 w9.heap.size hg HSH.out (by omega) (by omega) HOF.out).mono ?_
  rintro e_ w18 ⟨rfl, hmk, c1⟩
  clear hg
  replace k0 := cell_wi c1 k0 (by show ¬ (z9 ≤ w.heap.size ∧ w.heap.size < w9.heap.size); omega)
  replace k1 := cell_wi c1 k1 (by show ¬ (z9 ≤ w.heap.size ∧ w.heap.size < w9.heap.size); omega)
  replace k2 := cell_wi c1 k2 (by show ¬ (z9 ≤ w.heap.size ∧ w.heap.size < w9.heap.size); omega)
  replace k3 := cell_wi c1 k3 (by show ¬ (z9 ≤ w.heap.size ∧ w.heap.size < w9.heap.size); omega)
  replace k4 := cell_wi c1 k4 (by show ¬ (z9 ≤ w.heap.size ∧ w.heap.size < w9.heap.size); omega)
  replace g0 := cell_wi c1 g0 (by show ¬ (z9 ≤ w6.heap.size ∧ w6.heap.size < w9.heap.size); omega)
  replace g1 := cell_wi c1 g1 (by show ¬ (z9 ≤ w6.heap.size ∧ w6.heap.size < w9.heap.size); omega)
  replace g2 := cell_wi c1 g2 (by show ¬ (z9 ≤ w6.heap.size ∧ w6.heap.size < w9.heap.size); omega)
  replace g3 := cell_wi c1 g3 (by show ¬ (z9 ≤ w6.heap.size ∧ w6.heap.size < w9.heap.size); omega)
  replace g4 := cell_wi c1 g4 (by show ¬ (z9 ≤ w6.heap.size ∧ w6.heap.size < w9.heap.size); omega)
  replace hw := hw.wi c1 (by omega)
  replace hB := hB.then_wi c1 (by omega)
  have hb18 := c1.size
  clear c1
  have hk1 : decide ((1 : Int) + (offs F m : Nat) < 0) = false := decide_eq_false (by omega)
  have hk2 : ((1 : Int) + (offs F m : Nat) != 1 + (offs F m : Nat)) = false := by simp
  go_wp2_with fail
  refine (heldViewS XG m yG F 1 _ hmk.rd HM.out HSH.out (by omega) (by omega) HOF.out).mono ?_
  rintro e_ w19 ⟨rfl, b1⟩
  replace k0 := pw_cell_below b1.out k0
  replace k1 := pw_cell_below b1.out k1
  replace k2 := pw_cell_below b1.out k2
  replace k3 := pw_cell_below b1.out k3
  replace k4 := pw_cell_below b1.out k4
  replace g0 := pw_cell_below b1.out g0
  replace g1 := pw_cell_below b1.out g1
  replace g2 := pw_cell_below b1.out g2
  replace g3 := pw_cell_below b1.out g3
  replace g4 := pw_cell_below b1.out g4
  replace hw := hw.to b1
  replace hmk := hmk.to b1
  replace hB := hB.trans b1
  have hb19 := b1.size
  clear b1
  go_wp2_with fail
  refine (toState' _ s _ (StR.to hx0 hB) (by omega) (by omega) (by omega) (by omega)).mono ?_
  rintro e_ w20 ⟨z20, U0, u0, U1, u1, U2, u2, U3, u3, hz20, rfl, x3, b1⟩
  have hy20 : w.heap.size + 1 ≤ z20 := by rw [hz20]; omega
  replace k0 := pw_cell_below b1.out k0
  replace k1 := pw_cell_below b1.out k1
  replace k2 := pw_cell_below b1.out k2
  replace k3 := pw_cell_below b1.out k3
  replace k4 := pw_cell_below b1.out k4
  replace g0 := pw_cell_below b1.out g0
  replace g1 := pw_cell_below b1.out g1
  replace g2 := pw_cell_below b1.out g2
  replace g3 := pw_cell_below b1.out g3
  replace g4 := pw_cell_below b1.out g4
  replace hw := hw.to b1
  replace hmk := hmk.to b1
  replace hB := hB.trans b1
  have hb20 := b1.size
  clear b1
  go_wp2_with fail
  refine (toIntSz C n c cuts _ (HCU.out.to hB) (by omega)).mono ?_
  rintro e_ w21 ⟨z21, XL, yL, hz21, rfl, x4, b1⟩
  have hy21 : w.heap.size + 1 ≤ z21 := by rw [hz21]; omega
  replace k0 := pw_cell_below b1.out k0
  replace k1 := pw_cell_below b1.out k1
  replace k2 := pw_cell_below b1.out k2
  replace k3 := pw_cell_below b1.out k3
  replace k4 := pw_cell_below b1.out k4
  replace g0 := pw_cell_below b1.out g0
  replace g1 := pw_cell_below b1.out g1
  replace g2 := pw_cell_below b1.out g2
  replace g3 := pw_cell_below b1.out g3
  replace g4 := pw_cell_below b1.out g4
  replace hw := hw.to b1
  replace hmk := hmk.to b1
  replace x3 := x3.to b1
  replace hB := hB.trans b1
  have hb21 := b1.size
  clear b1
  go_wp2_with fail
  refine (impl_SplitState' _ s XL n yL cuts F m _ x3.c x4.rdI' HF.out HM.out).mono ?_
  rintro e_ w22 ⟨z22, XH, yH, hz22, rfl, hh, b1⟩
  have hy22 : w.heap.size + 1 ≤ z22 := by rw [hz22]; omega
  replace k0 := pw_cell_below b1.out k0
  replace k1 := pw_cell_below b1.out k1
  replace k2 := pw_cell_below b1.out k2
  replace k3 := pw_cell_below b1.out k3
  replace k4 := pw_cell_below b1.out k4
  replace g0 := pw_cell_below b1.out g0
  replace g1 := pw_cell_below b1.out g1
  replace g2 := pw_cell_below b1.out g2
  replace g3 := pw_cell_below b1.out g3
  replace g4 := pw_cell_below b1.out g4
  replace hw := hw.to b1
  replace hmk := hmk.to b1
  replace x3 := x3.to b1
  replace x4 := x4.to b1
  replace hB := hB.trans b1
  have hb22 := b1.size
  clear b1
  clear x3 x4
  go_wp2_with fail
  refine (eqViewS_yes XH m yH XW yW F _ hh.rd hw.rd).mono ?_
  rintro e_ w23 ⟨rfl, b1⟩
  replace k0 := pw_cell_below b1.out k0
  replace k1 := pw_cell_below b1.out k1
  replace k2 := pw_cell_below b1.out k2
  replace k3 := pw_cell_below b1.out k3
  replace k4 := pw_cell_below b1.out k4
  replace g0 := pw_cell_below b1.out g0
  replace g1 := pw_cell_below b1.out g1
  replace g2 := pw_cell_below b1.out g2
  replace g3 := pw_cell_below b1.out g3
  replace g4 := pw_cell_below b1.out g4
  replace hw := hw.to b1
  replace hmk := hmk.to b1
  replace hh := hh.to b1
  replace hB := hB.trans b1
  have hb23 := b1.size
  clear b1
  go_wp2_with fail
  refine (heldViewS XG m yG F 1 _ hmk.rd HM.out HSH.out (by omega) (by omega) HOF.out).mono ?_
  rintro e_ w24 ⟨rfl, b1⟩
  replace hB := hB.trans b1
  go_wp2
  go_ret
  exact ⟨rfl, hB⟩
theorem law_SplitState (ro : Int) (A0 : Option Addr) (c0 : Nat) (l0 : List TC) (A1 : Option Addr) (c1 : Nat) (l1 : List Int) (A2 : Option Addr) (c2 : Nat) (l2 : List Int) (A3 : Option Addr) (c3 : Nat) (l3 : List Int) (C : Option Addr) (d : Nat) (cuts : List Int) (W : World) {P : Prop} (_ : P)
    (h0 : Kd.C kC W A0 l0.length l0) (_ : l0.length ≤ c0) (_ : l0.length ≤ 9223372036854775807) {P0 : Prop} (_ : P0) (h1 : Kd.C kI W A1 l1.length l1) (_ : l1.length ≤ c1) (_ : l1.length ≤ 9223372036854775807) {P1 : Prop} (_ : P1) (h2 : Kd.C kI W A2 l2.length l2) (_ : l2.length ≤ c2) (_ : l2.length ≤ 9223372036854775807) {P2 : Prop} (_ : P2) (h3 : Kd.C kI W A3 l3.length l3) (_ : l3.length ≤ c3) (_ : l3.length ≤ 9223372036854775807) {P3 : Prop} (_ : P3) (h4 : Kd.C kI W C cuts.length cuts) (_ : cuts.length ≤ d) (_ : cuts.length ≤ 9223372036854775807) {P4 : Prop} (_ : P4) :
    Calls Try.prog 4 #[.agg #[.int .i64 ro, .slice A0 l0.length c0, .slice A1 l1.length c1, .slice A2 l2.length c2, .slice A3 l3.length c3], .slice C cuts.length d] W fun e w' => e = .returned (.bool true) ∧ Bw W w' := by
  have hl : (l0.map ceOf).length = l0.length := List.length_map _
  have h := laws_FnExactSplitState ⟨ro, l0.map ceOf, l1, l2, l3⟩ A0 c0 A1 c1 A2 c2 A3 c3 C cuts.length d cuts W ⟨A0, c0, A1, c1, A2, c2, A3, c3, rfl, by show IdR W A0 (l0.map ceOf).length _; rw [hl]; exact IdR.of_C h0, RI.of_C h1, RI.of_C h2, RI.of_C h3⟩ (RI.of_C h4)
  simp only [hl] at h
  exact h
end Go.Proofs.Ytpgdemclfheimaa.U
