
/- Parts of a state in a row, by the reference. -/
import Derived.Test.YtgdkffddcbjmmaaG6
import Derived.Test.YtgdkffddcbjmmaaG8
import Derived.Test.YtgdkffddcbjmmaaSs
import Derived.Test.YtgdkffddcbjmmaaLJoinViews
set_option linter.unusedVariables false
set_option linter.unusedSimpArgs false
namespace Go.Proofs.Ytgdkffddcbjmmaa.U
open Go.RowKit Go.Lib Go.Proofs.YtgdkffddcbjmmaaW.PrintWords
open Go.Proofs.YtgdkffddcbjmmaaW.PrintLast Go.Proofs.YtgdkffddcbjmmaaW.PrintMore
def partV (s : Sta) (p q : Nat) : Vf := ⟨s.ro, (p : Int), idF ((s.lv.take q).drop p), (s.ms.take q).drop p, (s.ts.take q).drop p, s.bd, ghosts s p q⟩
def ct (cuts : List Int) (j : Nat) : Nat := (rd cuts (j : Int)).toNat
def parts (s : Sta) (cuts : List Int) : List Vf := (List.range (cuts.length - 1)).map fun j => partV s (ct cuts j) (ct cuts (j + 1))
theorem parts_length (s : Sta) (cuts : List Int) : (parts s cuts).length = cuts.length - 1 := by simp [parts]
theorem parts_at (s : Sta) (cuts : List Int) (j : Nat) (h : j < cuts.length - 1) : gv (parts s cuts) j = partV s (ct cuts j) (ct cuts (j + 1)) := by
 rw [gv_at (by rw [parts_length]; exact h)]
 simp [parts]
theorem PVw.vio {w : World} {lo : Nat} {s : Sta} {p q : Nat} {vl vm vt vb vg : Value} (h : PVw w lo s p q vl vm vt vb vg) : ViO w lo w.heap.size (partV s p q) (fun f => [.int .i64 s.ro, .int .i64 (p : Int), vl, vm, vt, vb, vg][f]?) :=
 ⟨vl, vm, vt, vb, vg, _, _, _, _, _, rfl, rfl, rfl, rfl, rfl, rfl, rfl, h.l.rw, h.m.rw, h.t.rw, h.b.rw, h.g.rw, h.ap⟩
theorem spec_l24Part' (x : Value) (s : Sta) (p q : Nat) (w : World) (hx : StC w x s) (hs : StF s) (hpq : p ≤ q ∧ q ≤ s.lv.length) :
  Calls Try.prog 30 #[x, .int .i64 p, .int .i64 q] w fun e w' => ∃ (X0 : Option Addr) (y0 : Nat) (X1 : Option Addr) (y1 : Nat) (X2 : Option Addr) (y2 : Nat) (X3 : Option Addr) (y3 : Nat) (X4 : Option Addr) (y4 : Nat), e = .returned (.agg #[.int .i64 s.ro, .int .i64 p, .slice X0 (q - p) y0, .slice X1 (q - p) y1, .slice X2 (q - p) y2, .slice X3 s.bd.length y3, .slice X4 8 y4]) ∧ PVw w' (w.heap.size + 2) s p q (.slice X0 (q - p) y0) (.slice X1 (q - p) y1) (.slice X2 (q - p) y2) (.slice X3 s.bd.length y3) (.slice X4 8 y4) ∧ w.heap.size + 2 ≤ w'.heap.size ∧ Bw w w' := by
 refine (spec_l24Part x s p q w hx hs hpq.1 hpq.2).mono ?_
 rintro e w' ⟨vl, vm, vt, vb, vg, rfl, PV, hz, b⟩
 obtain ⟨X0, y0, X1, y1, X2, y2, X3, y3, X4, y4, rfl, rfl, rfl, rfl, rfl⟩ := PV.forms
 exact ⟨X0, y0, X1, y1, X2, y2, X3, y3, X4, y4, rfl, PV, hz, b⟩
set_option maxHeartbeats 16000000 in
set_option maxRecDepth 100000 in
theorem spec_l24Split (x : Value) (s : Sta) (C : Option Addr) (n c : Nat) (cuts : List Int) (w : World) (hx : StC w x s) (hs : StF s) (r : RI w C n cuts) (hc : cutsOk s.lv.length cuts = true) :
  Calls Try.prog 13 #[x, .slice C n c] w fun e w' => ∃ v, e = .returned v ∧ VwO w' w.heap.size w'.heap.size v (n - 1) (parts s cuts) ∧ Bw w w' := by
 have hx0 := hx
 obtain ⟨A0, c0, A1, c1, A2, c2, A3, c3, rfl, r0, r1, r2, r3, k0, k1, k2, k3⟩ := hx
 have hlen := r.len
 obtain ⟨⟨f1, f2⟩, _, _, _⟩ := cutsOk_facts hc
 rw [hlen] at f1 f2
 have HCU := hid (fun j hj => cut_at hc j hj)
 have HL := hid hlen
 have b0 := Bw.box1 w (.cells #[.int .i64 s.ro, .slice A0 s.lv.length c0, .slice A1 s.ms.length c1, .slice A2 s.ts.length c2, .slice A3 s.bd.length c3] 39)
 have hk0 := heap_alloc_new w (.cells #[.int .i64 s.ro, .slice A0 s.lv.length c0, .slice A1 s.ms.length c1, .slice A2 s.ts.length c2, .slice A3 s.bd.length c3] 39 (0, 0))
 have b1 := Bw.box1 (w.alloc (.cells #[.int .i64 s.ro, .slice A0 s.lv.length c0, .slice A1 s.ms.length c1, .slice A2 s.ts.length c2, .slice A3 s.bd.length c3] 39)) (.cells #[] 46)
 have hk1 := (b1.out.block _ (blk_lt hk0)).trans hk0
 have o0 : ((w.alloc (.cells #[.int .i64 s.ro, .slice A0 s.lv.length c0, .slice A1 s.ms.length c1, .slice A2 s.ts.length c2, .slice A3 s.bd.length c3] 39)).alloc (.cells #[] 46)).ownsRow w.heap.size 46 7 (.slice (some ⟨w.heap.size + 1, 0, none⟩) 0 0) 0 [] := by
  have h := World.ownsRow_lit (base := w.heap.size) (e := 46) (size := 7) (w.alloc (.cells #[.int .i64 s.ro, .slice A0 s.lv.length c0, .slice A1 s.ms.length c1, .slice A2 s.ts.length c2, .slice A3 s.bd.length c3] 39)) #[] 0 b0.size (by simp [maxLen]) (by simp)
  rwa [show (w.alloc (.cells #[.int .i64 s.ro, .slice A0 s.lv.length c0, .slice A1 s.ms.length c1, .slice A2 s.ts.length c2, .slice A3 s.bd.length c3] 39)).heap.size = w.heap.size + 1 by simp] at h
 have H0 := hid (VG.nil _ _ 0 (fun j => partV s (ct cuts j) (ct cuts (j + 1))) o0)
 have B0 := b0.trans b1
 clear b0 b1 hk0 o0 hc hlen r0 r1 r2 r3 k0 k1 k2 k3
 go_enter Try.func13, Try.ntmps13
 go_wp2
 go_loopw [5, 6] (fun v5 v6 wr => ∃ (j : Nat) (xs : List Value) (b e : Nat → Nat), j ≤ n - 1 ∧ v6 = .int .i64 j ∧ Hid (VG wr w.heap.size v5 j (fun j => partV s (ct cuts j) (ct cuts (j + 1))) xs b e) ∧ wr.heap[w.heap.size]? = some (.cells #[.int .i64 s.ro, .slice A0 s.lv.length c0, .slice A1 s.ms.length c1, .slice A2 s.ts.length c2, .slice A3 s.bd.length c3] 39 (0, 0)) ∧ Bw w wr) (fun _ v6 _ => n - (intOf v6).toNat)
 case atStart => exact ⟨0, _, _, _, by omega, rfl, H0, hk1, B0⟩
 case round =>
  obtain ⟨j, xs, b, e, hj, rfl, hV, hk, hB⟩ := hrel
  clear H0 hk1 B0
  have g0 := blk_cell hk 0
  have g1 := blk_cell hk 1
  have g2 := blk_cell hk 2
  have g3 := blk_cell hk 3
  have g4 := blk_cell hk 4
  simp only [List.getElem?_toArray, List.getElem?_cons_zero, List.getElem?_cons_succ] at g0 g1 g2 g3 g4
  have e1 : wrap64 ((j : Int) + 1) = (j : Int) + 1 := w64 (by omega) (by omega)
  have e2 : IntKind.i64.wrap ((j : Int) + 1) = (j : Int) + 1 := i64w (by omega) (by omega)
  by_cases hlt : j + 1 < n
  ·have t1 : decide ((j : Int) + 1 < (n : Int)) = true := decide_eq_true (by omega)
   obtain ⟨ad, rfl, m0⟩ := (r.to hB).nat j (by omega)
   obtain ⟨_, ea, m1⟩ := (r.to hB).nat (j + 1) hlt
   obtain rfl := Option.some.inj ea
   rw [add_pos _ _ (by omega)] at m1
   obtain ⟨h0, h1, h2⟩ := (HCU.out j (by rw [HL.out]; omega)).out
   obtain ⟨P, hP⟩ : ∃ P : Nat, ct cuts j = P := ⟨_, rfl⟩
   obtain ⟨Q, hQ⟩ : ∃ Q : Nat, ct cuts (j + 1) = Q := ⟨_, rfl⟩
   have hP2 : rd cuts (j : Int) = (P : Int) := by rw [← hP, ct]; omega
   have hQ2 : rd cuts ((j + 1 : Nat) : Int) = (Q : Int) := by rw [← hQ, ct]; omega
   rw [hP2] at m0
   rw [hQ2] at m1
   have HPQ := hid (show P ≤ Q ∧ Q ≤ s.lv.length by omega)
   have i0 : (0 : Int) ≤ (j : Int) := by omega
   have i1 : (j : Int) < (n : Int) := by omega
   have i2 : (j : Int) + 1 < (n : Int) := by omega
   have i3 : (0 : Int) ≤ (j : Int) + 1 := by omega
   have HP := hid hP
   have HQ := hid hQ
   have HK := hid hk
   clear h0 h1 h2 hP hQ hP2 hQ2 ea hk
   go_wp2
   refine start_ (n := 15) (S := fun w' => w'.cell? ⟨w.heap.size, 0, none⟩ = some (.int .i64 s.ro) ∧ w'.cell? ⟨w.heap.size, 1, none⟩ = some (.slice A0 s.lv.length c0) ∧ w'.cell? ⟨w.heap.size, 2, none⟩ = some (.slice A1 s.ms.length c1) ∧ w'.cell? ⟨w.heap.size, 3, none⟩ = some (.slice A2 s.ts.length c2) ∧ w'.cell? ⟨w.heap.size, 4, none⟩ = some (.slice A3 s.bd.length c3) ∧ w'.cell? (ad.add j) = some (.int .i64 P) ∧ w'.cell? ⟨ad.block, ad.off + (j + 1), none⟩ = some (.int .i64 Q)) (ds := [12, 13, 14]) #[false, false, false, false, false, false, false, false, false, false, false, false, false, false, false] (by kernel_rfl) rfl rfl ⟨g0, g1, g2, g3, g4, m0, m1⟩ (fun hHeld => ?_)
   refine pq_ (i := 0) (N := (some 15)) (v := ?_) (a' := ?_) rfl rfl (by kernel_rfl) (fun _ _ _ h => h) (Or.inl ⟨by rfl, ?_⟩) ?_ ?_
   rotate_left; (intro w'; go_simp; with_reducible rfl); rotate_left; (simp only [Act.put, s1_, s2_, s3_, i64_w, i32_w]; rfl)
   refine tq_ (i := 1) (N := (some 16)) (v := ?_) (a' := ?_) rfl rfl (by kernel_rfl) (fun _ _ _ h => h) (Or.inl ⟨by rfl, ?_⟩) hHeld ?_ ?_
   rotate_left; (rintro w' ⟨s0, s1, s2, s3, s4, s5, s6⟩; go_simp; with_reducible rfl); rotate_left; (simp only [Act.put, s1_, s2_, s3_, i64_w, i32_w]; rfl)
   refine pq_ (i := 2) (N := (some 17)) (v := ?_) (a' := ?_) rfl rfl (by kernel_rfl) (fun _ _ _ h => h) (Or.inl ⟨by rfl, ?_⟩) ?_ ?_
   rotate_left; (intro w'; go_simp; with_reducible rfl); rotate_left; (simp only [Act.put, s1_, s2_, s3_, i64_w, i32_w]; rfl)
   refine pq_ (i := 3) (N := (some 18)) (v := ?_) (a' := ?_) rfl rfl (by kernel_rfl) (fun _ _ _ h => h) (Or.inl ⟨by rfl, ?_⟩) ?_ ?_
   rotate_left; (intro w'; go_simp; with_reducible rfl); rotate_left; (simp only [Act.put, s1_, s2_, s3_, i64_w, i32_w]; rfl)
   refine pq_ (i := 4) (N := (some 19)) (v := ?_) (a' := ?_) rfl rfl (by kernel_rfl) (fun _ _ _ h => h) (Or.inl ⟨by rfl, ?_⟩) ?_ ?_
   rotate_left; (intro w'; go_simp; with_reducible rfl); rotate_left; (simp only [Act.put, s1_, s2_, s3_, i64_w, i32_w]; rfl)
   refine tq_ (i := 5) (N := (some 20)) (v := ?_) (a' := ?_) rfl rfl (by kernel_rfl) (fun _ _ _ h => h) (Or.inl ⟨by rfl, ?_⟩) hHeld ?_ ?_
   rotate_left; (rintro w' ⟨s0, s1, s2, s3, s4, s5, s6⟩; go_simp; with_reducible rfl); rotate_left; (simp only [Act.put, s1_, s2_, s3_, i64_w, i32_w]; rfl)
   refine pq_ (i := 6) (N := (some 21)) (v := ?_) (a' := ?_) rfl rfl (by kernel_rfl) (fun _ _ _ h => h) (Or.inl ⟨by rfl, ?_⟩) ?_ ?_
   rotate_left; (intro w'; go_simp; with_reducible rfl); rotate_left; (simp only [Act.put, s1_, s2_, s3_, i64_w, i32_w]; rfl)
   refine pq_ (i := 7) (N := (some 22)) (v := ?_) (a' := ?_) rfl rfl (by kernel_rfl) (fun _ _ _ h => h) (Or.inl ⟨by rfl, ?_⟩) ?_ ?_
   rotate_left; (intro w'; go_simp; with_reducible rfl); rotate_left; (simp only [Act.put, s1_, s2_, s3_, i64_w, i32_w]; rfl)
   refine pq_ (i := 8) (N := (some 23)) (v := ?_) (a' := ?_) rfl rfl (by kernel_rfl) (fun _ _ _ h => h) (Or.inl ⟨by rfl, ?_⟩) ?_ ?_
   rotate_left; (intro w'; go_simp; with_reducible rfl); rotate_left; (simp only [Act.put, s1_, s2_, s3_, i64_w, i32_w]; rfl)
   refine pq_ (i := 9) (N := (some 24)) (v := ?_) (a' := ?_) rfl rfl (by kernel_rfl) (fun _ _ _ h => h) (Or.inl ⟨by rfl, ?_⟩) ?_ ?_
   rotate_left; (intro w'; go_simp; with_reducible rfl); rotate_left; (simp only [Act.put, s1_, s2_, s3_, i64_w, i32_w]; rfl)
   refine tq_ (i := 10) (N := (some 25)) (v := ?_) (a' := ?_) rfl rfl (by kernel_rfl) (fun _ _ _ h => h) (Or.inl ⟨by rfl, ?_⟩) hHeld ?_ ?_
   rotate_left; (rintro w' ⟨s0, s1, s2, s3, s4, s5, s6⟩; go_simp; with_reducible rfl); rotate_left; (simp only [Act.put, s1_, s2_, s3_, i64_w, i32_w]; rfl)
   refine one_ (i := 11) (N := (some 26)) #[true, true, true, true, true, true, true, true, true, true, true, true, false, false, false] rfl rfl (by kernel_rfl) (by decide) (fun K hK => ?_)
   refine goes_ Try.func30 (by kernel_rfl) rfl #[.agg #[.int .i64 s.ro, .slice A0 s.lv.length c0, .slice A1 s.ms.length c1, .slice A2 s.ts.length c2, .slice A3 s.bd.length c3], .int .i64 P, .int .i64 Q] (by rfl) rfl rfl (by (try simp only [List.map_toArray, List.map_cons, List.map_nil]); first | done | rfl) ?_
   refine (spec_l24Part' _ s P Q _ (hx0.to (hB.trans (Bw.drawn ⟨⟨1, rfl⟩⟩))) hs HPQ.out).mono ?_
   rintro e wa ⟨X0, y0, X1, y1, X2, y2, X3, y3, X4, y4, rfl, PV, hsz, ba⟩
   refine ⟨_, rfl, ?_⟩
   have bA := (Bw.drawn (a := wr) ⟨⟨1, rfl⟩⟩).trans ba
   refine hK.out _ _ ⟨pw_cell_below bA.out g0, pw_cell_below bA.out g1, pw_cell_below bA.out g2, pw_cell_below bA.out g3, pw_cell_below bA.out g4, pw_cell_below bA.out m0, pw_cell_below bA.out m1⟩ (fun hHeld => ?_)
   clear hK K; refine norm_ (a' := ?_) ?_ ?_; rotate_left; (show Act.put _ (some 26) _ = _; simp only [Act.put, s1_, s2_, s3_, i64_w, i32_w]; rfl)
   refine last_ (i := 12) (N := (some 27)) #[true, true, true, true, true, true, true, true, true, true, true, true, true, false, false] rfl rfl (by kernel_rfl) (by decide) (fun K hK => ?_)
   refine value_ (w1 := ?_) (v := ?_) (by rfl) rfl ?_ ?_
   rotate_left 2
   ·go_simp
    constructor
    ·rfl
    ·rfl
   refine hK.out _ _ ?_
   clear hK K; refine norm_ (a' := ?_) ?_ ?_; rotate_left; (show Act.put _ (some 27) _ = _; simp only [Act.put, s1_, s2_, s3_, i64_w, i32_w]; rfl)
   refine last_ (i := 13) (N := (some 28)) #[true, true, true, true, true, true, true, true, true, true, true, true, true, true, false] rfl rfl (by kernel_rfl) (by decide) (fun K hK => ?_)
   have hV' := hV.out.to bA
   refine step_append_cells (w0 := w) w.heap.size (by rfl) (.tmp 15) (.tmp 27) 24 46 (.agg #[.int .i64 0, .int .i64 0, .slice none 0 0, .slice none 0 0, .slice none 0 0, .slice none 0 0, .slice none 0 0]) 7 136 rfl Try.underlying24 info_view rfl (by decide) (by decide) u5 j xs [.int .i64 s.ro, .int .i64 P, .slice X0 (Q - P) y0, .slice X1 (Q - P) y1, .slice X2 (Q - P) y2, .slice X3 s.bd.length y3, .slice X4 8 y4] rfl rfl rfl (by intro u hu; simp at hu; rcases hu with rfl | rfl | rfl | rfl | rfl | rfl | rfl <;> rfl) hV'.row (hB.trans bA).out (hB.trans bA).size (by omega) ?_
   intro v1 wd od hBd hgd had
   refine hK.out _ _ ?_
   clear hK K; refine norm_ (a' := ?_) ?_ ?_; rotate_left; (show Act.put _ (some 28) _ = _; simp only [Act.put, s1_, s2_, s3_, i64_w, i32_w]; rfl)
   have hkA : wa.heap[w.heap.size]? = some (.cells #[.int .i64 s.ro, .slice A0 s.lv.length c0, .slice A1 s.ms.length c1, .slice A2 s.ts.length c2, .slice A3 s.bd.length c3] 39 (0, 0)) := (bA.out.block _ (blk_lt HK.out)).trans HK.out
   have hkD := blk_grown hkA hgd (own_ne hV'.row hkA (by decide))
   have hsr : (wr.drewN 1).heap.size = wr.heap.size := rfl
   have HV2 := hid (VG.app hV' od hgd had (bn := (wr.drewN 1).heap.size + 2) (en := wa.heap.size) ⟨by have := hB.size; omega, hsz, Nat.le_refl _⟩ (fun i hi => by have := hV.out.iv i hi; omega) (fun g hg => by have := own_lt hV.out.row g hg; omega) (by simp only [HP.out, HQ.out]; exact PV.vio))
   have HKD := hid hkD
   have HBD := hid (show Bw w wd from ⟨hBd⟩)
   clear hkD hkA hBd hgd had od hV' PV hHeld bA ba hsz hsr
   refine last_ (i := 14) (N := (some 5)) #[true, true, true, true, true, true, true, true, true, true, true, true, true, true, true] rfl rfl (by kernel_rfl) (by decide) (fun K hK => ?_)
   refine value_ (w1 := ?_) (v := ?_) (by rfl) rfl ?_ ?_
   rotate_left 2
   ·go_simp
    constructor
    ·rfl
    ·rfl
   refine hK.out _ _ ?_
   clear hK K; refine norm_ (a' := ?_) ?_ ?_; rotate_left; (show Act.put _ (some 5) _ = _; simp only [Act.put, s1_, s2_, s3_, i64_w, i32_w]; rfl)
   refine done_ (by kernel_rfl) ?_
   go_wp2
   go_roundw
   case rel => exact ⟨j + 1, _, _, _, by omega, by go_num, HV2, HKD.out, HBD.out⟩
   case measure => simp [intOf]; omega
  ·obtain rfl : j = n - 1 := by omega
   have t1 : decide (((n - 1 : Nat) : Int) + 1 < (n : Int)) = false := decide_eq_false (by omega)
   have hR := hV.out.vwo (L := parts s cuts) (by rw [parts_length, HL.out]) (fun i hi => parts_at s cuts i (by rw [HL.out]; exact hi))
   go_wp2
   exact bodyPost_ret (v := u5) (by clear hR hV; simp [results, Try.results13, go_sem]) rfl ⟨_, rfl, hR, hB⟩
end Go.Proofs.Ytgdkffddcbjmmaa.U
set_option linter.unusedVariables false
set_option linter.unusedSimpArgs false
namespace Go.Proofs.Ytgdkffddcbjmmaa.U
open Go.RowKit Go.Lib Go.Proofs.YtgdkffddcbjmmaaW.PrintWords
open Go.Proofs.YtgdkffddcbjmmaaW.PrintLast Go.Proofs.YtgdkffddcbjmmaaW.PrintMore
def splitState6T : Bool × List (List Nat × List Nat) := (true, [([], []), ([0], [0]), ([1], [1]), ([], []), ([], []), ([4], [4]), ([5], [5]), ([], []), ([], []), ([6, 7, 8], [6, 7, 8]), ([9], [9]), ([], []), ([11], [11]), ([], []), ([], []), ([12, 13, 14], [12, 13, 14]), ([15, 10], [15]), ([], []), ([17], [17]), ([], []), ([], []), ([18, 19, 20], [18, 19, 20]), ([21, 16], [21]), ([], []), ([23], [23]), ([24, 22], [24]), ([], []), ([2, 3, 10, 16, 22, 25, 26], [2, 3, 10, 16, 22, 25, 26]), ([], []), ([28, 27, 25, 0, 1, 2, 3, 4, 5, 6, 7, 8, 9, 10, 11, 12, 13, 14, 15, 16, 17, 18, 19, 20, 21, 22, 23, 24, 25, 26, 27, 28], [27, 28])])
def splitState6B : List Nat := [0, 1, 3, 0, 0, 16, 48, 0, 0, 496, 1008, 0, 2048, 0, 0, 30720, 65520, 0, 131072, 0, 0, 1966080, 4194288, 0, 8388608, 33554416, 0, 134217727, 0, 536870911]
theorem splitState6tab : rtab .any (opsOf Try.f18 6) = splitState6T := by kernel_rfl
theorem splitState6bits : waitsOk splitState6T.2 splitState6B = true := by kernel_rfl
set_option maxHeartbeats 16000000 in
set_option maxRecDepth 100000 in
theorem impl_splitState (x : Value) (s : Sta) (C : Option Addr) (n c : Nat) (cuts : List Int) (w : World) (hx : StC w x s) (hs : StF s) (r : RI w C n cuts) (hc : cutsOk s.lv.length cuts = true) :
  Calls Try.prog 18 #[x, .slice C n c] w fun e w' => ∃ v, e = .returned v ∧ VwO w' w.heap.size w'.heap.size v (n - 1) (parts s cuts) ∧ Bw w w' := by
 have hx0 := hx
 obtain ⟨A0, c0, A1, c1, A2, c2, A3, c3, rfl, r0, r1, r2, r3, k0, k1, k2, k3⟩ := hx
 have hlen := r.len
 obtain ⟨⟨f1, f2⟩, _, _, _⟩ := cutsOk_facts hc
 rw [hlen] at f1 f2
 have HCU := hid (fun j hj => cut_at hc j hj)
 have HL := hid hlen
 have b0 := Bw.box1 w (.cells #[.int .i64 s.ro, .slice A0 s.lv.length c0, .slice A1 s.ms.length c1, .slice A2 s.ts.length c2, .slice A3 s.bd.length c3] 39)
 have hk0 := heap_alloc_new w (.cells #[.int .i64 s.ro, .slice A0 s.lv.length c0, .slice A1 s.ms.length c1, .slice A2 s.ts.length c2, .slice A3 s.bd.length c3] 39 (0, 0))
 have b1 := Bw.box1 (w.alloc (.cells #[.int .i64 s.ro, .slice A0 s.lv.length c0, .slice A1 s.ms.length c1, .slice A2 s.ts.length c2, .slice A3 s.bd.length c3] 39)) (.cells #[] 46)
 have hk1 := (b1.out.block _ (blk_lt hk0)).trans hk0
 have o0 : ((w.alloc (.cells #[.int .i64 s.ro, .slice A0 s.lv.length c0, .slice A1 s.ms.length c1, .slice A2 s.ts.length c2, .slice A3 s.bd.length c3] 39)).alloc (.cells #[] 46)).ownsRow w.heap.size 46 7 (.slice (some ⟨w.heap.size + 1, 0, none⟩) 0 0) 0 [] := by
  have h := World.ownsRow_lit (base := w.heap.size) (e := 46) (size := 7) (w.alloc (.cells #[.int .i64 s.ro, .slice A0 s.lv.length c0, .slice A1 s.ms.length c1, .slice A2 s.ts.length c2, .slice A3 s.bd.length c3] 39)) #[] 0 b0.size (by simp [maxLen]) (by simp)
  rwa [show (w.alloc (.cells #[.int .i64 s.ro, .slice A0 s.lv.length c0, .slice A1 s.ms.length c1, .slice A2 s.ts.length c2, .slice A3 s.bd.length c3] 39)).heap.size = w.heap.size + 1 by simp] at h
 have H0 := hid (VG.nil _ _ 0 (fun j => partV s (ct cuts j) (ct cuts (j + 1))) o0)
 have B0 := b0.trans b1
 have hk8 : ∀ W : World, (Instr.makeSlice 32 (.int .i64 8) (.int .i64 8)).run Try.prog W = .ok (.slice (some ⟨W.heap.size, 0, none⟩) 8 8) (W.alloc (.cells #[.int .i64 0, .int .i64 0, .int .i64 0, .int .i64 0, .int .i64 0, .int .i64 0, .int .i64 0, .int .i64 0] 3)) := make_lit 8 (by omega) _ (by kernel_rfl)
 have HK8 := hid hk8
 clear hk8
 clear b0 b1 hk0 o0 hc hlen
 go_enter Try.func18, Try.ntmps18
 go_wp2
 go_loopw [5, 14] (fun v5 v6 wr => ∃ (j : Nat) (xs : List Value) (b e : Nat → Nat), j ≤ n - 1 ∧ v6 = .int .i64 j ∧ Hid (VG wr w.heap.size v5 j (fun j => partV s (ct cuts j) (ct cuts (j + 1))) xs b e) ∧ wr.heap[w.heap.size]? = some (.cells #[.int .i64 s.ro, .slice A0 s.lv.length c0, .slice A1 s.ms.length c1, .slice A2 s.ts.length c2, .slice A3 s.bd.length c3] 39 (0, 0)) ∧ Bw w wr) (fun _ v6 _ => n - (intOf v6).toNat)
 case atStart => exact ⟨0, _, _, _, by omega, rfl, H0, hk1, B0⟩
 case round =>
  obtain ⟨j, xs, b, e, hj, rfl, hV, hk, hB⟩ := hrel
  clear H0 hk1 B0
  have g0 := blk_cell hk 0
  have g1 := blk_cell hk 1
  have g2 := blk_cell hk 2
  have g3 := blk_cell hk 3
  have g4 := blk_cell hk 4
  simp only [List.getElem?_toArray, List.getElem?_cons_zero, List.getElem?_cons_succ] at g0 g1 g2 g3 g4
  have HEE := hid (show (wrap64 ((j : Int) + 1) = (j : Int) + 1 ∧ IntKind.i64.wrap ((j : Int) + 1) = (j : Int) + 1) ∧ (wrap64 ((n : Int) - 1) = (n : Int) - 1 ∧ IntKind.i64.wrap ((n : Int) - 1) = (n : Int) - 1) from ⟨⟨w64 (by omega) (by omega), i64w (by omega) (by omega)⟩, w64 (by omega) (by omega), i64w (by omega) (by omega)⟩)
  by_cases hlt : j + 1 < n
  ·have t1 : decide ((j : Int) < (n : Int) - 1) = true := decide_eq_true (by omega)
   obtain ⟨ad, rfl, m0⟩ := (r.to hB).nat j (by omega)
   obtain ⟨_, ea, m1⟩ := (r.to hB).nat (j + 1) hlt
   obtain rfl := Option.some.inj ea
   rw [add_pos _ _ (by omega)] at m1
   obtain ⟨h0, h1, h2⟩ := (HCU.out j (by rw [HL.out]; omega)).out
   obtain ⟨P, hP⟩ : ∃ P : Nat, ct cuts j = P := ⟨_, rfl⟩
   obtain ⟨Q, hQ⟩ : ∃ Q : Nat, ct cuts (j + 1) = Q := ⟨_, rfl⟩
   have hP2 : rd cuts (j : Int) = (P : Int) := by rw [← hP, ct]; omega
   have hQ2 : rd cuts ((j + 1 : Nat) : Int) = (Q : Int) := by rw [← hQ, ct]; omega
   rw [hP2] at m0
   rw [hQ2] at m1
   have HPQ := hid (show P ≤ Q ∧ Q ≤ s.lv.length by omega)
   have i0 : (0 : Int) ≤ (j : Int) := by omega
   have i1 : (j : Int) < (n : Int) := by omega
   have i2 : (j : Int) + 1 < (n : Int) := by omega
   have i3 : (0 : Int) ≤ (j : Int) + 1 := by omega
   have HP := hid hP
   have HQ := hid hQ
   have HK := hid hk
   clear h0 h1 h2 hP hQ hP2 hQ2 ea hk
   obtain ⟨⟨e1, e2⟩, em, em2⟩ := HEE.out
   clear HEE
   go_upto_region 5 with fail
   go_quiet (fail)
   go_upto_region 6 with fail
   have hBq : Bw wr (wr.drewN nq) := Bw.drawn ⟨⟨nq, rfl⟩⟩
   have HV1 := hid (hV.out.to hBq)
   have HB1 := hid (hB.trans hBq)
   have HK1 := hid ((hBq.out.block _ (blk_lt HK.out)).trans HK.out)
   replace g0 := pw_cell_below hBq.out g0
   replace g1 := pw_cell_below hBq.out g1
   replace g2 := pw_cell_below hBq.out g2
   replace g3 := pw_cell_below hBq.out g3
   replace g4 := pw_cell_below hBq.out g4
   clear hV hB HK hBq m0 m1
   obtain ⟨Bl, dl, hml, hrl, hdl⟩ := IdR.mid A0 _ c0 s.lv rfl k0 P Q HPQ.out.1 HPQ.out.2
   obtain ⟨Bm, dm, hmm, hrm, hdm⟩ := RI.midN A1 _ c1 s.ms rfl k1 P Q HPQ.out.1 (by have := hs.ms; have := HPQ.out; omega)
   obtain ⟨Bt, dt, hmt, hrt, hdt⟩ := RI.midN A2 _ c2 s.ts rfl k2 P Q HPQ.out.1 (by have := hs.ts; have := HPQ.out; omega)
   clear k0 k1 k2 k3 hdl hdm hdt
   generalize (wr.drewN nq) = W1 at *
   go_cut [9] from 26 to 53 (fun v9 wx => ∃ (G : Nat) (κ : Nat → Nat) (z10 z16 z22 z25 z26 : Value), v9 = .pointer (some ⟨G, 0, none⟩) ∧ W1.heap.size ≤ G ∧ wx.heap[G]? = some (.cells #[.int .i64 s.ro, .int .i64 P, z10, z16, z22, z25, z26] 46 (0, 0)) ∧ Cn wx W1.heap.size κ 0 60 3 z10 (Q - P) (idF ((s.lv.take Q).drop P)) ∧ Cn wx W1.heap.size κ 1 3 1 z16 (Q - P) ((s.ms.take Q).drop P) ∧ Cn wx W1.heap.size κ 2 3 1 z22 (Q - P) ((s.ts.take Q).drop P) ∧ Cn wx W1.heap.size κ 3 3 1 z25 s.bd.length s.bd ∧ Cn wx W1.heap.size κ 4 3 1 z26 8 [0, 0, 0, 0, 0, 0, 0, 0] ∧ Bw W1 wx)
   case first =>
    have BW := Aside0.mk (Bw.refl W1)
    have HT_ := Aside0.mk splitState6tab
    have HW_ := Aside0.mk splitState6bits
    refine start_ (n := 30) (S := fun w' => True) (ds := []) #[false, false, false, false, false, false, false, false, false, false, false, false, false, false, false, false, false, false, false, false, false, false, false, false, false, false, false, false, false, false] (by kernel_rfl) rfl rfl trivial (fun hHeld => ?_)
    refine pq_ (i := 0) (N := some 26) (v := ?_) (a' := ?_) rfl rfl (by kernel_rfl) (fun _ _ _ h => h) (Or.inl ⟨by rfl, ?_⟩) ?_ ?_
    rotate_left; (intro w'; go_simp; with_reducible rfl); rotate_left; (simp only [Act.put, s1_, s2_, s3_, i64_w, i32_w]; rfl)
    refine pq_ (i := 1) (N := some 27) (v := ?_) (a' := ?_) rfl rfl (by kernel_rfl) (fun _ _ _ h => h) (Or.inl ⟨by rfl, ?_⟩) ?_ ?_
    rotate_left; (intro w'; go_simp; with_reducible rfl); rotate_left; (simp only [Act.put, s1_, s2_, s3_, i64_w, i32_w]; rfl)
    refine pq_ (i := 3) (N := some 29) (v := ?_) (a' := ?_) rfl rfl (by kernel_rfl) (fun _ _ _ h => h) (Or.inl ⟨by rfl, ?_⟩) ?_ ?_
    rotate_left; (intro w'; go_simp; with_reducible rfl); rotate_left; (simp only [Act.put, s1_, s2_, s3_, i64_w, i32_w]; rfl)
    refine pq_ (i := 4) (N := some 30) (v := ?_) (a' := ?_) rfl rfl (by kernel_rfl) (fun _ _ _ h => h) (Or.inl ⟨by rfl, ?_⟩) ?_ ?_
    rotate_left; (intro w'; go_simp; with_reducible rfl); rotate_left; (simp only [Act.put, s1_, s2_, s3_, i64_w, i32_w]; rfl)
    refine pq_ (i := 5) (N := some 31) (v := ?_) (a' := ?_) rfl rfl (by kernel_rfl) (fun _ _ _ h => h) (Or.inl ⟨by rfl, ?_⟩) ?_ ?_
    rotate_left; (intro w'; go_simp; with_reducible rfl); rotate_left; (simp only [Act.put, s1_, s2_, s3_, i64_w, i32_w]; rfl)
    refine pq_ (i := 7) (N := some 33) (v := ?_) (a' := ?_) rfl rfl (by kernel_rfl) (fun _ _ _ h => h) (Or.inl ⟨by rfl, ?_⟩) ?_ ?_
    rotate_left; (intro w'; go_simp; with_reducible rfl); rotate_left; (simp only [Act.put, s1_, s2_, s3_, i64_w, i32_w]; rfl)
    refine pq_ (i := 8) (N := some 34) (v := ?_) (a' := ?_) rfl rfl (by kernel_rfl) (fun _ _ _ h => h) (Or.inl ⟨by rfl, ?_⟩) ?_ ?_
    rotate_left; (intro w'; go_simp; with_reducible rfl); rotate_left; (simp only [Act.put, s1_, s2_, s3_, i64_w, i32_w]; rfl)
    refine pq_ (i := 11) (N := some 37) (v := ?_) (a' := ?_) rfl rfl (by kernel_rfl) (fun _ _ _ h => h) (Or.inl ⟨by rfl, ?_⟩) ?_ ?_
    rotate_left; (intro w'; go_simp; with_reducible rfl); rotate_left; (simp only [Act.put, s1_, s2_, s3_, i64_w, i32_w]; rfl)
    refine pq_ (i := 13) (N := some 39) (v := ?_) (a' := ?_) rfl rfl (by kernel_rfl) (fun _ _ _ h => h) (Or.inl ⟨by rfl, ?_⟩) ?_ ?_
    rotate_left; (intro w'; go_simp; with_reducible rfl); rotate_left; (simp only [Act.put, s1_, s2_, s3_, i64_w, i32_w]; rfl)
    refine pq_ (i := 14) (N := some 40) (v := ?_) (a' := ?_) rfl rfl (by kernel_rfl) (fun _ _ _ h => h) (Or.inl ⟨by rfl, ?_⟩) ?_ ?_
    rotate_left; (intro w'; go_simp; with_reducible rfl); rotate_left; (simp only [Act.put, s1_, s2_, s3_, i64_w, i32_w]; rfl)
    refine pq_ (i := 17) (N := some 43) (v := ?_) (a' := ?_) rfl rfl (by kernel_rfl) (fun _ _ _ h => h) (Or.inl ⟨by rfl, ?_⟩) ?_ ?_
    rotate_left; (intro w'; go_simp; with_reducible rfl); rotate_left; (simp only [Act.put, s1_, s2_, s3_, i64_w, i32_w]; rfl)
    refine pq_ (i := 19) (N := some 45) (v := ?_) (a' := ?_) rfl rfl (by kernel_rfl) (fun _ _ _ h => h) (Or.inl ⟨by rfl, ?_⟩) ?_ ?_
    rotate_left; (intro w'; go_simp; with_reducible rfl); rotate_left; (simp only [Act.put, s1_, s2_, s3_, i64_w, i32_w]; rfl)
    refine pq_ (i := 20) (N := some 46) (v := ?_) (a' := ?_) rfl rfl (by kernel_rfl) (fun _ _ _ h => h) (Or.inl ⟨by rfl, ?_⟩) ?_ ?_
    rotate_left; (intro w'; go_simp; with_reducible rfl); rotate_left; (simp only [Act.put, s1_, s2_, s3_, i64_w, i32_w]; rfl)
    refine pq_ (i := 23) (N := some 49) (v := ?_) (a' := ?_) rfl rfl (by kernel_rfl) (fun _ _ _ h => h) (Or.inl ⟨by rfl, ?_⟩) ?_ ?_
    rotate_left; (intro w'; go_simp; with_reducible rfl); rotate_left; (simp only [Act.put, s1_, s2_, s3_, i64_w, i32_w]; rfl)
    refine inv_at [2, 6, 9, 10, 12, 15, 16, 18, 21, 22, 24, 25, 26, 27, 28, 29] (fun a0_ b a w' => ∃ (κ : Nat → Nat) (z10 : Value) (z16 : Value) (z22 : Value) (z25 : Value) (z26 : Value) (gB : Nat) (m27_ : Value) (m28_ : Value), a = putSel a0_ b [(2, 28, .int .i64 s.ro), (6, 32, .slice A0 s.lv.length c0), (9, 35, .slice Bl (Q - P) dl), (10, 36, z10), (12, 38, .slice A1 s.ms.length c1), (15, 41, .slice Bm (Q - P) dm), (16, 42, z16), (18, 44, .slice A2 s.ts.length c2), (21, 47, .slice Bt (Q - P) dt), (22, 48, z22), (24, 50, .slice A3 s.bd.length c3), (25, 51, z25), (26, 52, z26), (27, 53, m27_), (28, 9, m28_)] ∧ (Bw W1 w') ∧ (b 10 = true → Cn w' W1.heap.size κ 0 60 3 z10 (Q - P) (idF ((s.lv.take Q).drop P))) ∧ (b 16 = true → Cn w' W1.heap.size κ 1 3 1 z16 (Q - P) ((s.ms.take Q).drop P)) ∧ (b 22 = true → Cn w' W1.heap.size κ 2 3 1 z22 (Q - P) ((s.ts.take Q).drop P)) ∧ (b 25 = true → Cn w' W1.heap.size κ 3 3 1 z25 s.bd.length s.bd) ∧ (b 26 = true → Cn w' W1.heap.size κ 4 3 1 z26 8 [0, 0, 0, 0, 0, 0, 0, 0]) ∧ (b 28 = true → W1.heap.size ≤ gB) ∧ (b 28 = true → b 29 = false → w'.heap[gB]? = some (.cells #[.int .i64 0, .int .i64 0, .slice none 0 0, .slice none 0 0, .slice none 0 0, .slice none 0 0, .slice none 0 0] 46 (0, 0))) ∧ (b 29 = true → w'.heap[gB]? = some (.cells #[.int .i64 s.ro, .int .i64 P, z10, z16, z22, z25, z26] 46 (0, 0))) ∧ (b 27 = true → (m27_ : Value) = .agg #[.int .i64 s.ro, .int .i64 P, z10, z16, z22, z25, z26]) ∧ (b 28 = true → (m28_ : Value) = .pointer (some ⟨gB, 0, none⟩))) HT_.out HW_.out (by kernel_rfl) (by kernel_rfl) ?_ ?_ ?_
    ·exact ⟨fun _ => 0, .slice none 0 0, .slice none 0 0, .slice none 0 0, .slice none 0 0, .slice none 0 0, 0, .bool false, .bool false, by simp only [putSel, Bool.false_eq_true, if_false], BW.out.trans (Bw.drawn ⟨⟨1, rfl⟩⟩), fun h_ => absurd h_ (by decide), fun h_ => absurd h_ (by decide), fun h_ => absurd h_ (by decide), fun h_ => absurd h_ (by decide), fun h_ => absurd h_ (by decide), fun h_ => absurd h_ (by decide), fun h_ => absurd h_ (by decide), fun h_ => absurd h_ (by decide), fun h_ => absurd h_ (by decide), fun h_ => absurd h_ (by decide)⟩
    ·skip
     clear BW
     refine steps_cons ?_ ?_
     ·rintro b a w' ⟨κ, z10, z16, z22, z25, z26, gB, m27_, m28_, ha, Q_BW, Q_R10, Q_R16, Q_R22, Q_R25, Q_R26, Q_GE, Q_BX, Q_BY, Q_X27_, Q_X28_⟩ hb_ hon hoff
      refine ⟨_, rfl, fun K hK => ?_⟩
      have e27 : a.tmps[27]? = some (.pointer (some ⟨w.heap.size, 0, none⟩)) := by rw [ha]; exact (putSel_off rfl).trans rfl
      replace ha := Aside0.mk ha
      have BW := Aside0.mk Q_BW
      have hc_ := pw_cell_below BW.out.out g0
      refine value_ (w1 := w') (v := .int .i64 s.ro) (by rfl) rfl ?_ ?_
      ·go_simp
       (try simp only [i64_w])
       try rfl
      refine hK.out _ _ ⟨κ, z10, z16, z22, z25, z26, gB, m27_, m28_, (by rw [ha.out]; exact putSel_upk 0 hb_ rfl rfl rfl), Q_BW, Q_R10, Q_R16, Q_R22, Q_R25, Q_R26, Q_GE, Q_BX, fun h0_ => absurd ((hoff 29 (by kernel_rfl)).symm.trans h0_) (by decide), fun h0_ => absurd ((hoff 27 (by kernel_rfl)).symm.trans h0_) (by decide), Q_X28_⟩
     refine steps_cons ?_ ?_
     ·rintro b a w' ⟨κ, z10, z16, z22, z25, z26, gB, m27_, m28_, ha, Q_BW, Q_R10, Q_R16, Q_R22, Q_R25, Q_R26, Q_GE, Q_BX, Q_BY, Q_X27_, Q_X28_⟩ hb_ hon hoff
      refine ⟨_, rfl, fun K hK => ?_⟩
      have e31 : a.tmps[31]? = some (.pointer (some ⟨w.heap.size, 1, none⟩)) := by rw [ha]; exact (putSel_off rfl).trans rfl
      replace ha := Aside0.mk ha
      have BW := Aside0.mk Q_BW
      have hc_ := pw_cell_below BW.out.out g1
      refine value_ (w1 := w') (v := .slice A0 s.lv.length c0) (by rfl) rfl ?_ ?_
      ·go_simp
       (try simp only [i64_w])
       try rfl
      refine hK.out _ _ ⟨κ, z10, z16, z22, z25, z26, gB, m27_, m28_, (by rw [ha.out]; exact putSel_upk 1 hb_ rfl rfl rfl), Q_BW, fun h0_ => absurd ((hoff 10 (by kernel_rfl)).symm.trans h0_) (by decide), fun h0_ => absurd ((hoff 16 (by kernel_rfl)).symm.trans h0_) (by decide), fun h0_ => absurd ((hoff 22 (by kernel_rfl)).symm.trans h0_) (by decide), fun h0_ => absurd ((hoff 25 (by kernel_rfl)).symm.trans h0_) (by decide), Q_R26, Q_GE, Q_BX, fun h0_ => absurd ((hoff 29 (by kernel_rfl)).symm.trans h0_) (by decide), fun h0_ => absurd ((hoff 27 (by kernel_rfl)).symm.trans h0_) (by decide), Q_X28_⟩
     refine steps_cons ?_ ?_
     ·rintro b a w' ⟨κ, z10, z16, z22, z25, z26, gB, m27_, m28_, ha, Q_BW, Q_R10, Q_R16, Q_R22, Q_R25, Q_R26, Q_GE, Q_BX, Q_BY, Q_X27_, Q_X28_⟩ hb_ hon hoff
      refine ⟨_, rfl, fun K hK => ?_⟩
      have e32 : a.tmps[32]? = some (.slice A0 s.lv.length c0) := by rw [ha]; exact putSel_on (e := (6, 32, .slice A0 s.lv.length c0)) 1 rfl rfl (hon 6 (by kernel_rfl)) rfl
      have e33 : a.tmps[33]? = some (.int .i64 P) := by rw [ha]; exact (putSel_off rfl).trans rfl
      have e34 : a.tmps[34]? = some (.int .i64 Q) := by rw [ha]; exact (putSel_off rfl).trans rfl
      replace ha := Aside0.mk ha
      have BW := Aside0.mk Q_BW
      have hm_ := hml
      refine value_ (w1 := w') (v := .slice Bl (Q - P) dl) (by rfl) rfl ?_ ?_
      ·go_simp
       (try simp only [i64_w])
       try rfl
      refine hK.out _ _ ⟨κ, z10, z16, z22, z25, z26, gB, m27_, m28_, (by rw [ha.out]; exact putSel_upk 2 hb_ rfl rfl rfl), Q_BW, fun h0_ => absurd ((hoff 10 (by kernel_rfl)).symm.trans h0_) (by decide), fun h0_ => absurd ((hoff 16 (by kernel_rfl)).symm.trans h0_) (by decide), fun h0_ => absurd ((hoff 22 (by kernel_rfl)).symm.trans h0_) (by decide), fun h0_ => absurd ((hoff 25 (by kernel_rfl)).symm.trans h0_) (by decide), Q_R26, Q_GE, Q_BX, fun h0_ => absurd ((hoff 29 (by kernel_rfl)).symm.trans h0_) (by decide), fun h0_ => absurd ((hoff 27 (by kernel_rfl)).symm.trans h0_) (by decide), Q_X28_⟩
     refine steps_cons ?_ ?_
     ·rintro b a w' ⟨κ, z10, z16, z22, z25, z26, gB, m27_, m28_, ha, Q_BW, Q_R10, Q_R16, Q_R22, Q_R25, Q_R26, Q_GE, Q_BX, Q_BY, Q_X27_, Q_X28_⟩ hb_ hon hoff
      refine ⟨_, rfl, fun K hK => ?_⟩
      have e35 : a.tmps[35]? = some (.slice Bl (Q - P) dl) := by rw [ha]; exact putSel_on (e := (9, 35, .slice Bl (Q - P) dl)) 2 rfl rfl (hon 9 (by kernel_rfl)) rfl
      replace ha := Aside0.mk ha
      have BW := Aside0.mk Q_BW
      have hsz : W1.heap.size ≤ w'.heap.size := BW.out.size
      refine goes_ Try.func38 (by kernel_rfl) rfl #[.slice Bl (Q - P) dl] (by rfl) rfl rfl (by first | (simp only [List.map_toArray, List.map_cons, List.map_nil, Act.eval, Array.getD_eq_getD_getElem?, Option.getD_some, e35]; done) | (simp only [List.map_toArray, List.map_cons, List.map_nil, Act.eval, Array.getD_eq_getD_getElem?, Option.getD_some, e35]; rfl)) ?_
      refine (cloneIds Bl (Q - P) dl _ _ (hrl _ ((r0.to HB1.out).to BW.out)) (by have := hs.n; have := HPQ.out; omega)).mono ?_
      rintro e wL ⟨vL, rfl, oL, bL⟩
      have oF : FO wL w'.heap.size 60 3 vL (Q - P) (idF ((s.lv.take Q).drop P)) := ⟨oL.out⟩
      refine ⟨_, rfl, ?_⟩
      refine hK.out _ _ ⟨(paint κ w'.heap.size 0), vL, z16, z22, z25, z26, gB, m27_, m28_, (by rw [ha.out]; exact putSel_upk 3 hb_ rfl rfl rfl), BW.out.trans bL, fun _ => oF.cn hsz, fun h0_ => absurd ((hoff 16 (by kernel_rfl)).symm.trans h0_) (by decide), fun h0_ => absurd ((hoff 22 (by kernel_rfl)).symm.trans h0_) (by decide), fun h0_ => absurd ((hoff 25 (by kernel_rfl)).symm.trans h0_) (by decide), fun h0_ => (Q_R26 h0_).to bL 0, fun h0_ => (Q_GE h0_), fun h0_ h1_ => (bL.out.block _ (blk_lt (Q_BX h0_ h1_))).trans (Q_BX h0_ h1_), fun h0_ => absurd ((hoff 29 (by kernel_rfl)).symm.trans h0_) (by decide), fun h0_ => absurd ((hoff 27 (by kernel_rfl)).symm.trans h0_) (by decide), Q_X28_⟩
     refine steps_cons ?_ ?_
     ·rintro b a w' ⟨κ, z10, z16, z22, z25, z26, gB, m27_, m28_, ha, Q_BW, Q_R10, Q_R16, Q_R22, Q_R25, Q_R26, Q_GE, Q_BX, Q_BY, Q_X27_, Q_X28_⟩ hb_ hon hoff
      refine ⟨_, rfl, fun K hK => ?_⟩
      have e37 : a.tmps[37]? = some (.pointer (some ⟨w.heap.size, 2, none⟩)) := by rw [ha]; exact (putSel_off rfl).trans rfl
      replace ha := Aside0.mk ha
      have BW := Aside0.mk Q_BW
      have hc_ := pw_cell_below BW.out.out g2
      refine value_ (w1 := w') (v := .slice A1 s.ms.length c1) (by rfl) rfl ?_ ?_
      ·go_simp
       (try simp only [i64_w])
       try rfl
      refine hK.out _ _ ⟨κ, z10, z16, z22, z25, z26, gB, m27_, m28_, (by rw [ha.out]; exact putSel_upk 4 hb_ rfl rfl rfl), Q_BW, Q_R10, fun h0_ => absurd ((hoff 16 (by kernel_rfl)).symm.trans h0_) (by decide), fun h0_ => absurd ((hoff 22 (by kernel_rfl)).symm.trans h0_) (by decide), fun h0_ => absurd ((hoff 25 (by kernel_rfl)).symm.trans h0_) (by decide), Q_R26, Q_GE, Q_BX, fun h0_ => absurd ((hoff 29 (by kernel_rfl)).symm.trans h0_) (by decide), fun h0_ => absurd ((hoff 27 (by kernel_rfl)).symm.trans h0_) (by decide), Q_X28_⟩
     refine steps_cons ?_ ?_
     ·rintro b a w' ⟨κ, z10, z16, z22, z25, z26, gB, m27_, m28_, ha, Q_BW, Q_R10, Q_R16, Q_R22, Q_R25, Q_R26, Q_GE, Q_BX, Q_BY, Q_X27_, Q_X28_⟩ hb_ hon hoff
      refine ⟨_, rfl, fun K hK => ?_⟩
      have e38 : a.tmps[38]? = some (.slice A1 s.ms.length c1) := by rw [ha]; exact putSel_on (e := (12, 38, .slice A1 s.ms.length c1)) 4 rfl rfl (hon 12 (by kernel_rfl)) rfl
      have e39 : a.tmps[39]? = some (.int .i64 P) := by rw [ha]; exact (putSel_off rfl).trans rfl
      have e40 : a.tmps[40]? = some (.int .i64 Q) := by rw [ha]; exact (putSel_off rfl).trans rfl
      replace ha := Aside0.mk ha
      have BW := Aside0.mk Q_BW
      have hm_ := hmm
      refine value_ (w1 := w') (v := .slice Bm (Q - P) dm) (by rfl) rfl ?_ ?_
      ·go_simp
       (try simp only [i64_w])
       try rfl
      refine hK.out _ _ ⟨κ, z10, z16, z22, z25, z26, gB, m27_, m28_, (by rw [ha.out]; exact putSel_upk 5 hb_ rfl rfl rfl), Q_BW, Q_R10, fun h0_ => absurd ((hoff 16 (by kernel_rfl)).symm.trans h0_) (by decide), fun h0_ => absurd ((hoff 22 (by kernel_rfl)).symm.trans h0_) (by decide), fun h0_ => absurd ((hoff 25 (by kernel_rfl)).symm.trans h0_) (by decide), Q_R26, Q_GE, Q_BX, fun h0_ => absurd ((hoff 29 (by kernel_rfl)).symm.trans h0_) (by decide), fun h0_ => absurd ((hoff 27 (by kernel_rfl)).symm.trans h0_) (by decide), Q_X28_⟩
     refine steps_cons ?_ ?_
     ·rintro b a w' ⟨κ, z10, z16, z22, z25, z26, gB, m27_, m28_, ha, Q_BW, Q_R10, Q_R16, Q_R22, Q_R25, Q_R26, Q_GE, Q_BX, Q_BY, Q_X27_, Q_X28_⟩ hb_ hon hoff
      refine ⟨_, rfl, fun K hK => ?_⟩
      have e41 : a.tmps[41]? = some (.slice Bm (Q - P) dm) := by rw [ha]; exact putSel_on (e := (15, 41, .slice Bm (Q - P) dm)) 5 rfl rfl (hon 15 (by kernel_rfl)) rfl
      replace ha := Aside0.mk ha
      have BW := Aside0.mk Q_BW
      have R10 := Aside0.mk (Q_R10 (hon 10 (by kernel_rfl)))
      have hsz : W1.heap.size ≤ w'.heap.size := BW.out.size
      refine goes_ Try.func35 (by kernel_rfl) rfl #[.slice Bm (Q - P) dm] (by rfl) rfl rfl (by first | (simp only [List.map_toArray, List.map_cons, List.map_nil, Act.eval, Array.getD_eq_getD_getElem?, Option.getD_some, e41]; done) | (simp only [List.map_toArray, List.map_cons, List.map_nil, Act.eval, Array.getD_eq_getD_getElem?, Option.getD_some, e41]; rfl)) ?_
      refine (cloneInts Bm (Q - P) dm _ _ (hrm _ ((r1.to HB1.out).to BW.out)) (by have := hs.n; have := HPQ.out; omega)).mono ?_
      rintro e wL ⟨vL, rfl, oL, bL⟩
      have oF : FO wL w'.heap.size 3 1 vL (Q - P) ((s.ms.take Q).drop P) := ⟨oL.out⟩
      refine ⟨_, rfl, ?_⟩
      refine hK.out _ _ ⟨(paint κ w'.heap.size 1), z10, vL, z22, z25, z26, gB, m27_, m28_, (by rw [ha.out]; exact putSel_upk 6 hb_ rfl rfl rfl), BW.out.trans bL, fun _ => R10.out.to bL 1, fun _ => oF.cn hsz, fun h0_ => absurd ((hoff 22 (by kernel_rfl)).symm.trans h0_) (by decide), fun h0_ => absurd ((hoff 25 (by kernel_rfl)).symm.trans h0_) (by decide), fun h0_ => (Q_R26 h0_).to bL 1, fun h0_ => (Q_GE h0_), fun h0_ h1_ => (bL.out.block _ (blk_lt (Q_BX h0_ h1_))).trans (Q_BX h0_ h1_), fun h0_ => absurd ((hoff 29 (by kernel_rfl)).symm.trans h0_) (by decide), fun h0_ => absurd ((hoff 27 (by kernel_rfl)).symm.trans h0_) (by decide), Q_X28_⟩
     refine steps_cons ?_ ?_
     ·rintro b a w' ⟨κ, z10, z16, z22, z25, z26, gB, m27_, m28_, ha, Q_BW, Q_R10, Q_R16, Q_R22, Q_R25, Q_R26, Q_GE, Q_BX, Q_BY, Q_X27_, Q_X28_⟩ hb_ hon hoff
      refine ⟨_, rfl, fun K hK => ?_⟩
      have e43 : a.tmps[43]? = some (.pointer (some ⟨w.heap.size, 3, none⟩)) := by rw [ha]; exact (putSel_off rfl).trans rfl
      replace ha := Aside0.mk ha
      have BW := Aside0.mk Q_BW
      have hc_ := pw_cell_below BW.out.out g3
      refine value_ (w1 := w') (v := .slice A2 s.ts.length c2) (by rfl) rfl ?_ ?_
      ·go_simp
       (try simp only [i64_w])
       try rfl
      refine hK.out _ _ ⟨κ, z10, z16, z22, z25, z26, gB, m27_, m28_, (by rw [ha.out]; exact putSel_upk 7 hb_ rfl rfl rfl), Q_BW, Q_R10, Q_R16, fun h0_ => absurd ((hoff 22 (by kernel_rfl)).symm.trans h0_) (by decide), fun h0_ => absurd ((hoff 25 (by kernel_rfl)).symm.trans h0_) (by decide), Q_R26, Q_GE, Q_BX, fun h0_ => absurd ((hoff 29 (by kernel_rfl)).symm.trans h0_) (by decide), fun h0_ => absurd ((hoff 27 (by kernel_rfl)).symm.trans h0_) (by decide), Q_X28_⟩
     refine steps_cons ?_ ?_
     ·rintro b a w' ⟨κ, z10, z16, z22, z25, z26, gB, m27_, m28_, ha, Q_BW, Q_R10, Q_R16, Q_R22, Q_R25, Q_R26, Q_GE, Q_BX, Q_BY, Q_X27_, Q_X28_⟩ hb_ hon hoff
      refine ⟨_, rfl, fun K hK => ?_⟩
      have e44 : a.tmps[44]? = some (.slice A2 s.ts.length c2) := by rw [ha]; exact putSel_on (e := (18, 44, .slice A2 s.ts.length c2)) 7 rfl rfl (hon 18 (by kernel_rfl)) rfl
      have e45 : a.tmps[45]? = some (.int .i64 P) := by rw [ha]; exact (putSel_off rfl).trans rfl
      have e46 : a.tmps[46]? = some (.int .i64 Q) := by rw [ha]; exact (putSel_off rfl).trans rfl
      replace ha := Aside0.mk ha
      have BW := Aside0.mk Q_BW
      have hm_ := hmt
      refine value_ (w1 := w') (v := .slice Bt (Q - P) dt) (by rfl) rfl ?_ ?_
      ·go_simp
       (try simp only [i64_w])
       try rfl
      refine hK.out _ _ ⟨κ, z10, z16, z22, z25, z26, gB, m27_, m28_, (by rw [ha.out]; exact putSel_upk 8 hb_ rfl rfl rfl), Q_BW, Q_R10, Q_R16, fun h0_ => absurd ((hoff 22 (by kernel_rfl)).symm.trans h0_) (by decide), fun h0_ => absurd ((hoff 25 (by kernel_rfl)).symm.trans h0_) (by decide), Q_R26, Q_GE, Q_BX, fun h0_ => absurd ((hoff 29 (by kernel_rfl)).symm.trans h0_) (by decide), fun h0_ => absurd ((hoff 27 (by kernel_rfl)).symm.trans h0_) (by decide), Q_X28_⟩
     refine steps_cons ?_ ?_
     ·rintro b a w' ⟨κ, z10, z16, z22, z25, z26, gB, m27_, m28_, ha, Q_BW, Q_R10, Q_R16, Q_R22, Q_R25, Q_R26, Q_GE, Q_BX, Q_BY, Q_X27_, Q_X28_⟩ hb_ hon hoff
      refine ⟨_, rfl, fun K hK => ?_⟩
      have e47 : a.tmps[47]? = some (.slice Bt (Q - P) dt) := by rw [ha]; exact putSel_on (e := (21, 47, .slice Bt (Q - P) dt)) 8 rfl rfl (hon 21 (by kernel_rfl)) rfl
      replace ha := Aside0.mk ha
      have BW := Aside0.mk Q_BW
      have R10 := Aside0.mk (Q_R10 (hon 10 (by kernel_rfl)))
      have R16 := Aside0.mk (Q_R16 (hon 16 (by kernel_rfl)))
      have hsz : W1.heap.size ≤ w'.heap.size := BW.out.size
      refine goes_ Try.func35 (by kernel_rfl) rfl #[.slice Bt (Q - P) dt] (by rfl) rfl rfl (by first | (simp only [List.map_toArray, List.map_cons, List.map_nil, Act.eval, Array.getD_eq_getD_getElem?, Option.getD_some, e47]; done) | (simp only [List.map_toArray, List.map_cons, List.map_nil, Act.eval, Array.getD_eq_getD_getElem?, Option.getD_some, e47]; rfl)) ?_
      refine (cloneInts Bt (Q - P) dt _ _ (hrt _ ((r2.to HB1.out).to BW.out)) (by have := hs.n; have := HPQ.out; omega)).mono ?_
      rintro e wL ⟨vL, rfl, oL, bL⟩
      have oF : FO wL w'.heap.size 3 1 vL (Q - P) ((s.ts.take Q).drop P) := ⟨oL.out⟩
      refine ⟨_, rfl, ?_⟩
      refine hK.out _ _ ⟨(paint κ w'.heap.size 2), z10, z16, vL, z25, z26, gB, m27_, m28_, (by rw [ha.out]; exact putSel_upk 9 hb_ rfl rfl rfl), BW.out.trans bL, fun _ => R10.out.to bL 2, fun _ => R16.out.to bL 2, fun _ => oF.cn hsz, fun h0_ => absurd ((hoff 25 (by kernel_rfl)).symm.trans h0_) (by decide), fun h0_ => (Q_R26 h0_).to bL 2, fun h0_ => (Q_GE h0_), fun h0_ h1_ => (bL.out.block _ (blk_lt (Q_BX h0_ h1_))).trans (Q_BX h0_ h1_), fun h0_ => absurd ((hoff 29 (by kernel_rfl)).symm.trans h0_) (by decide), fun h0_ => absurd ((hoff 27 (by kernel_rfl)).symm.trans h0_) (by decide), Q_X28_⟩
     refine steps_cons ?_ ?_
     ·rintro b a w' ⟨κ, z10, z16, z22, z25, z26, gB, m27_, m28_, ha, Q_BW, Q_R10, Q_R16, Q_R22, Q_R25, Q_R26, Q_GE, Q_BX, Q_BY, Q_X27_, Q_X28_⟩ hb_ hon hoff
      refine ⟨_, rfl, fun K hK => ?_⟩
      have e49 : a.tmps[49]? = some (.pointer (some ⟨w.heap.size, 4, none⟩)) := by rw [ha]; exact (putSel_off rfl).trans rfl
      replace ha := Aside0.mk ha
      have BW := Aside0.mk Q_BW
      have hc_ := pw_cell_below BW.out.out g4
      refine value_ (w1 := w') (v := .slice A3 s.bd.length c3) (by rfl) rfl ?_ ?_
      ·go_simp
       (try simp only [i64_w])
       try rfl
      refine hK.out _ _ ⟨κ, z10, z16, z22, z25, z26, gB, m27_, m28_, (by rw [ha.out]; exact putSel_upk 10 hb_ rfl rfl rfl), Q_BW, Q_R10, Q_R16, Q_R22, fun h0_ => absurd ((hoff 25 (by kernel_rfl)).symm.trans h0_) (by decide), Q_R26, Q_GE, Q_BX, fun h0_ => absurd ((hoff 29 (by kernel_rfl)).symm.trans h0_) (by decide), fun h0_ => absurd ((hoff 27 (by kernel_rfl)).symm.trans h0_) (by decide), Q_X28_⟩
     refine steps_cons ?_ ?_
     ·rintro b a w' ⟨κ, z10, z16, z22, z25, z26, gB, m27_, m28_, ha, Q_BW, Q_R10, Q_R16, Q_R22, Q_R25, Q_R26, Q_GE, Q_BX, Q_BY, Q_X27_, Q_X28_⟩ hb_ hon hoff
      refine ⟨_, rfl, fun K hK => ?_⟩
      have e50 : a.tmps[50]? = some (.slice A3 s.bd.length c3) := by rw [ha]; exact putSel_on (e := (24, 50, .slice A3 s.bd.length c3)) 10 rfl rfl (hon 24 (by kernel_rfl)) rfl
      replace ha := Aside0.mk ha
      have BW := Aside0.mk Q_BW
      have R10 := Aside0.mk (Q_R10 (hon 10 (by kernel_rfl)))
      have R16 := Aside0.mk (Q_R16 (hon 16 (by kernel_rfl)))
      have R22 := Aside0.mk (Q_R22 (hon 22 (by kernel_rfl)))
      have hsz : W1.heap.size ≤ w'.heap.size := BW.out.size
      refine goes_ Try.func35 (by kernel_rfl) rfl #[.slice A3 s.bd.length c3] (by rfl) rfl rfl (by first | (simp only [List.map_toArray, List.map_cons, List.map_nil, Act.eval, Array.getD_eq_getD_getElem?, Option.getD_some, e50]; done) | (simp only [List.map_toArray, List.map_cons, List.map_nil, Act.eval, Array.getD_eq_getD_getElem?, Option.getD_some, e50]; rfl)) ?_
      refine (cloneInts A3 s.bd.length c3 _ _ ((r3.to HB1.out).to BW.out) (by have := hs.bd; omega)).mono ?_
      rintro e wL ⟨vL, rfl, oL, bL⟩
      have oF : FO wL w'.heap.size 3 1 vL s.bd.length s.bd := ⟨oL.out⟩
      refine ⟨_, rfl, ?_⟩
      refine hK.out _ _ ⟨(paint κ w'.heap.size 3), z10, z16, z22, vL, z26, gB, m27_, m28_, (by rw [ha.out]; exact putSel_upk 11 hb_ rfl rfl rfl), BW.out.trans bL, fun _ => R10.out.to bL 3, fun _ => R16.out.to bL 3, fun _ => R22.out.to bL 3, fun _ => oF.cn hsz, fun h0_ => (Q_R26 h0_).to bL 3, fun h0_ => (Q_GE h0_), fun h0_ h1_ => (bL.out.block _ (blk_lt (Q_BX h0_ h1_))).trans (Q_BX h0_ h1_), fun h0_ => absurd ((hoff 29 (by kernel_rfl)).symm.trans h0_) (by decide), fun h0_ => absurd ((hoff 27 (by kernel_rfl)).symm.trans h0_) (by decide), Q_X28_⟩
     refine steps_cons ?_ ?_
     ·rintro b a w' ⟨κ, z10, z16, z22, z25, z26, gB, m27_, m28_, ha, Q_BW, Q_R10, Q_R16, Q_R22, Q_R25, Q_R26, Q_GE, Q_BX, Q_BY, Q_X27_, Q_X28_⟩ hb_ hon hoff
      refine ⟨_, rfl, fun K hK => ?_⟩
      replace ha := Aside0.mk ha
      have BW := Aside0.mk Q_BW
      have hsz : W1.heap.size ≤ w'.heap.size := BW.out.size
      have hk8 := HK8.out
      refine mk8_step (N := 52) ?hg ?hd ?hr ?_; (case hd => rfl); (case hg => rfl); (case hr => first | (go_simp; done) | (go_simp; rfl))
      intro XL yL wL oL bL
      refine hK.out _ _ ⟨(paint κ w'.heap.size 4), z10, z16, z22, z25, (.slice XL 8 yL), gB, m27_, m28_, (by rw [ha.out]; exact putSel_upk 12 hb_ rfl rfl rfl), BW.out.trans bL, fun h0_ => (Q_R10 h0_).to bL 4, fun h0_ => (Q_R16 h0_).to bL 4, fun h0_ => (Q_R22 h0_).to bL 4, fun h0_ => (Q_R25 h0_).to bL 4, fun _ => oL.cn hsz, fun h0_ => (Q_GE h0_), fun h0_ h1_ => (bL.out.block _ (blk_lt (Q_BX h0_ h1_))).trans (Q_BX h0_ h1_), fun h0_ => absurd ((hoff 29 (by kernel_rfl)).symm.trans h0_) (by decide), fun h0_ => absurd ((hoff 27 (by kernel_rfl)).symm.trans h0_) (by decide), Q_X28_⟩
     refine steps_cons ?_ ?_
     ·rintro b a w' ⟨κ, z10, z16, z22, z25, z26, gB, m27_, m28_, ha, Q_BW, Q_R10, Q_R16, Q_R22, Q_R25, Q_R26, Q_GE, Q_BX, Q_BY, Q_X27_, Q_X28_⟩ hb_ hon hoff
      refine ⟨_, rfl, fun K hK => ?_⟩
      have e28 : a.tmps[28]? = some (.int .i64 s.ro) := by rw [ha]; exact putSel_on (e := (2, 28, .int .i64 s.ro)) 0 rfl rfl (hon 2 (by kernel_rfl)) rfl
      have e29 : a.tmps[29]? = some (.int .i64 P) := by rw [ha]; exact (putSel_off rfl).trans rfl
      have e36 : a.tmps[36]? = some (z10) := by rw [ha]; exact putSel_on (e := (10, 36, z10)) 3 rfl rfl (hon 10 (by kernel_rfl)) rfl
      have e42 : a.tmps[42]? = some (z16) := by rw [ha]; exact putSel_on (e := (16, 42, z16)) 6 rfl rfl (hon 16 (by kernel_rfl)) rfl
      have e48 : a.tmps[48]? = some (z22) := by rw [ha]; exact putSel_on (e := (22, 48, z22)) 9 rfl rfl (hon 22 (by kernel_rfl)) rfl
      have e51 : a.tmps[51]? = some (z25) := by rw [ha]; exact putSel_on (e := (25, 51, z25)) 11 rfl rfl (hon 25 (by kernel_rfl)) rfl
      have e52 : a.tmps[52]? = some (z26) := by rw [ha]; exact putSel_on (e := (26, 52, z26)) 12 rfl rfl (hon 26 (by kernel_rfl)) rfl
      replace ha := Aside0.mk ha
      have BW := Aside0.mk Q_BW
      have R10 := Aside0.mk (Q_R10 (hon 10 (by kernel_rfl)))
      have R16 := Aside0.mk (Q_R16 (hon 16 (by kernel_rfl)))
      have R22 := Aside0.mk (Q_R22 (hon 22 (by kernel_rfl)))
      have R25 := Aside0.mk (Q_R25 (hon 25 (by kernel_rfl)))
      have R26 := Aside0.mk (Q_R26 (hon 26 (by kernel_rfl)))
      obtain ⟨X10_, y10_, e_, _, _⟩ := R10.out.o.reads
      subst e_
      obtain ⟨X16_, y16_, e_, _, _⟩ := R16.out.o.reads
      subst e_
      obtain ⟨X22_, y22_, e_, _, _⟩ := R22.out.o.reads
      subst e_
      obtain ⟨X25_, y25_, e_, _, _⟩ := R25.out.o.reads
      subst e_
      obtain ⟨X26_, y26_, e_, _, _⟩ := R26.out.o.reads
      subst e_
      refine value_ (w1 := w') (v := .agg #[.int .i64 s.ro, .int .i64 P, (.slice X10_ (Q - P) y10_), (.slice X16_ (Q - P) y16_), (.slice X22_ (Q - P) y22_), (.slice X25_ s.bd.length y25_), (.slice X26_ 8 y26_)]) (by rfl) rfl ?_ ?_
      ·go_simp
       (try simp only [i64_w])
       try rfl
      refine hK.out _ _ ⟨κ, (.slice X10_ (Q - P) y10_), (.slice X16_ (Q - P) y16_), (.slice X22_ (Q - P) y22_), (.slice X25_ s.bd.length y25_), (.slice X26_ 8 y26_), gB, (.agg #[.int .i64 s.ro, .int .i64 P, (.slice X10_ (Q - P) y10_), (.slice X16_ (Q - P) y16_), (.slice X22_ (Q - P) y22_), (.slice X25_ s.bd.length y25_), (.slice X26_ 8 y26_)]), m28_, (by rw [ha.out]; exact putSel_upk 13 hb_ rfl rfl rfl), Q_BW, Q_R10, Q_R16, Q_R22, Q_R25, Q_R26, Q_GE, Q_BX, fun h0_ => absurd ((hoff 29 (by kernel_rfl)).symm.trans h0_) (by decide), fun _ => rfl, Q_X28_⟩
     refine steps_cons ?_ ?_
     ·rintro b a w' ⟨κ, z10, z16, z22, z25, z26, gB, m27_, m28_, ha, Q_BW, Q_R10, Q_R16, Q_R22, Q_R25, Q_R26, Q_GE, Q_BX, Q_BY, Q_X27_, Q_X28_⟩ hb_ hon hoff
      refine ⟨_, rfl, fun K hK => ?_⟩
      replace ha := Aside0.mk ha
      have BW := Aside0.mk Q_BW
      refine box_step ?hg (N := 9) ?hd (cs := #[.int .i64 0, .int .i64 0, .slice none 0 0, .slice none 0 0, .slice none 0 0, .slice none 0 0, .slice none 0 0]) (t := 46) ?hr ?_; (case hd => rfl); (case hg => rfl); (case hr => first | (go_simp; done) | (go_simp; rfl))
      intro gN hgN wN hbox hb5
      refine hK.out _ _ ⟨(paint κ w'.heap.size 5), z10, z16, z22, z25, z26, gN, m27_, (.pointer (some ⟨gN, 0, none⟩)), (by rw [ha.out]; exact putSel_upk 14 hb_ rfl rfl rfl), BW.out.trans (⟨hb5⟩ : Bw w' wN), fun h0_ => (Q_R10 h0_).to (⟨hb5⟩ : Bw w' wN) 5, fun h0_ => (Q_R16 h0_).to (⟨hb5⟩ : Bw w' wN) 5, fun h0_ => (Q_R22 h0_).to (⟨hb5⟩ : Bw w' wN) 5, fun h0_ => (Q_R25 h0_).to (⟨hb5⟩ : Bw w' wN) 5, fun h0_ => (Q_R26 h0_).to (⟨hb5⟩ : Bw w' wN) 5, fun _ => by rw [hgN]; exact BW.out.size, fun _ _ => hbox, fun h0_ => absurd ((hoff 29 (by kernel_rfl)).symm.trans h0_) (by decide), Q_X27_, fun _ => rfl⟩
     refine steps_cons ?_ ?_
     ·rintro b a w' ⟨κ, z10, z16, z22, z25, z26, gB, m27_, m28_, ha, Q_BW, Q_R10, Q_R16, Q_R22, Q_R25, Q_R26, Q_GE, Q_BX, Q_BY, Q_X27_, Q_X28_⟩ hb_ hon hoff
      refine ⟨_, rfl, fun K hK => ?_⟩
      have e9 : a.tmps[9]? = some (m28_) := by rw [ha]; exact putSel_on (e := (28, 9, m28_)) 14 rfl rfl (hon 28 (by kernel_rfl)) rfl
      rw [Q_X28_ (hon 28 (by kernel_rfl))] at e9
      have e53 : a.tmps[53]? = some (m27_) := by rw [ha]; exact putSel_on (e := (27, 53, m27_)) 13 rfl rfl (hon 27 (by kernel_rfl)) rfl
      rw [Q_X27_ (hon 27 (by kernel_rfl))] at e53
      replace ha := Aside0.mk ha
      have BW := Aside0.mk Q_BW
      have R10 := Aside0.mk (Q_R10 (hon 10 (by kernel_rfl)))
      have R16 := Aside0.mk (Q_R16 (hon 16 (by kernel_rfl)))
      have R22 := Aside0.mk (Q_R22 (hon 22 (by kernel_rfl)))
      have R25 := Aside0.mk (Q_R25 (hon 25 (by kernel_rfl)))
      have R26 := Aside0.mk (Q_R26 (hon 26 (by kernel_rfl)))
      have GE := Aside0.mk (Q_GE (hon 28 (by kernel_rfl)))
      have BX := Aside0.mk (Q_BX (hon 28 (by kernel_rfl)) hb_)
      obtain ⟨X10_, y10_, e_, _, _⟩ := R10.out.o.reads
      subst e_
      obtain ⟨X16_, y16_, e_, _, _⟩ := R16.out.o.reads
      subst e_
      obtain ⟨X22_, y22_, e_, _, _⟩ := R22.out.o.reads
      subst e_
      obtain ⟨X25_, y25_, e_, _, _⟩ := R25.out.o.reads
      subst e_
      obtain ⟨X26_, y26_, e_, _, _⟩ := R26.out.o.reads
      subst e_
      have hs0_ := (blk_cell BX.out 0).trans (show _ = some (Value.int .i64 0) from rfl)
      have hf0_ := blk_frozen BX.out 0
      have hs1_ := (blk_cell BX.out 1).trans (show _ = some (Value.int .i64 0) from rfl)
      have hf1_ := blk_frozen BX.out 1
      have hs2_ := (blk_cell BX.out 2).trans (show _ = some (Value.slice none 0 0) from rfl)
      have hf2_ := blk_frozen BX.out 2
      have hs3_ := (blk_cell BX.out 3).trans (show _ = some (Value.slice none 0 0) from rfl)
      have hf3_ := blk_frozen BX.out 3
      have hs4_ := (blk_cell BX.out 4).trans (show _ = some (Value.slice none 0 0) from rfl)
      have hf4_ := blk_frozen BX.out 4
      have hs5_ := (blk_cell BX.out 5).trans (show _ = some (Value.slice none 0 0) from rfl)
      have hf5_ := blk_frozen BX.out 5
      have hs6_ := (blk_cell BX.out 6).trans (show _ = some (Value.slice none 0 0) from rfl)
      have hf6_ := blk_frozen BX.out 6
      have hwi : Wi w' (w7 w' gB 0 (.int .i64 s.ro) (.int .i64 P) (.slice X10_ (Q - P) y10_) (.slice X16_ (Q - P) y16_) (.slice X22_ (Q - P) y22_) (.slice X25_ s.bd.length y25_) (.slice X26_ 8 y26_)) gB (gB + 1) := w7_wi _ _ _ _ _ _ _ _ _ _
      have hwi2 := Aside0.mk hwi
      clear hwi
      refine skip_ (w1 := ?_) (by rfl) rfl ?_ ?_
      rotate_left
      ·go_simp
       rfl
      have hwi := hwi2.out
      refine hK.out _ _ ⟨κ, (.slice X10_ (Q - P) y10_), (.slice X16_ (Q - P) y16_), (.slice X22_ (Q - P) y22_), (.slice X25_ s.bd.length y25_), (.slice X26_ 8 y26_), gB, m27_, m28_, (by rw [ha.out]; exact putSel_none (v := undef) rfl), BW.out.then_wi hwi GE.out, fun _ => R10.out.store BX.out (by decide) hwi, fun _ => R16.out.store BX.out (by decide) hwi, fun _ => R22.out.store BX.out (by decide) hwi, fun _ => R25.out.store BX.out (by decide) hwi, fun _ => R26.out.store BX.out (by decide) hwi, fun _ => GE.out, fun _ h1_ => absurd ((up_self b 29).symm.trans h1_) (by decide), fun _ => w7_blk0 BX.out, Q_X27_, Q_X28_⟩
     exact steps_nil
    rintro b a w' hall ⟨κ, z10, z16, z22, z25, z26, gB, m27_, m28_, ha, Q_BW, Q_R10, Q_R16, Q_R22, Q_R25, Q_R26, Q_GE, Q_BX, Q_BY, Q_X27_, Q_X28_⟩
    clear BW
    have hb2_ := hall 2 (by kernel_rfl)
    have hb6_ := hall 6 (by kernel_rfl)
    have hb9_ := hall 9 (by kernel_rfl)
    have hb10_ := hall 10 (by kernel_rfl)
    have hb12_ := hall 12 (by kernel_rfl)
    have hb15_ := hall 15 (by kernel_rfl)
    have hb16_ := hall 16 (by kernel_rfl)
    have hb18_ := hall 18 (by kernel_rfl)
    have hb21_ := hall 21 (by kernel_rfl)
    have hb22_ := hall 22 (by kernel_rfl)
    have hb24_ := hall 24 (by kernel_rfl)
    have hb25_ := hall 25 (by kernel_rfl)
    have hb26_ := hall 26 (by kernel_rfl)
    have hb27_ := hall 27 (by kernel_rfl)
    have hb28_ := hall 28 (by kernel_rfl)
    have hb29_ := hall 29 (by kernel_rfl)
    subst ha
    obtain rfl := Q_X27_ hb27_
    obtain rfl := Q_X28_ hb28_
    simp only [putSel, hb2_, hb6_, hb9_, hb10_, hb12_, hb15_, hb16_, hb18_, hb21_, hb22_, hb24_, hb25_, hb26_, hb27_, hb28_, hb29_, if_true, Act.put, List.setIfInBounds_toArray, List.set_cons_zero, List.set_cons_succ]
    have BW := Aside0.mk Q_BW
    clear Q_BW
    have R10 := Aside0.mk (Q_R10 hb10_)
    clear Q_R10
    have R16 := Aside0.mk (Q_R16 hb16_)
    clear Q_R16
    have R22 := Aside0.mk (Q_R22 hb22_)
    clear Q_R22
    have R25 := Aside0.mk (Q_R25 hb25_)
    clear Q_R25
    have R26 := Aside0.mk (Q_R26 hb26_)
    clear Q_R26
    have GE := Aside0.mk (Q_GE hb28_)
    clear Q_GE
    clear Q_BX
    have BY := Aside0.mk (Q_BY hb29_)
    clear Q_BY
    clear hall hb2_ hb6_ hb9_ hb10_ hb12_ hb15_ hb16_ hb18_ hb21_ hb22_ hb24_ hb25_ hb26_ hb27_ hb28_ hb29_
    go_wp2
    go_meet
    case rel => exact ⟨gB, κ, z10, z16, z22, z25, z26, rfl, GE.out, BY.out, R10.out, R16.out, R22.out, R25.out, R26.out, BW.out⟩
   case rest =>
    obtain ⟨G, κ, z11, z18, z25, z29, z30, rfl, hG, hk, R11, R18, R25, R29, R30, hB⟩ := hcut
    clear hml hmm hmt hrl hrm hrt
    have hlq := hs.n
    go_upto_if 56 with fail
    go_cut [] from 56 to 65 (fun wz => ∃ zg : Value, PVw wz W1.heap.size s P Q z11 z18 z25 z29 zg ∧ wz.heap[G]? = some (.cells #[.int .i64 s.ro, .int .i64 P, z11, z18, z25, z29, zg] 46 (0, 0)) ∧ Bw W1 wz)
    case first =>
     by_cases hPQ : P < Q
     case pos =>
      have HE := hid (show wrap64 ((P : Int) - 1) = (P : Int) - 1 ∧ IntKind.i64.wrap ((P : Int) - 1) = (P : Int) - 1 from ⟨w64 (by have := HPQ.out; omega) (by have := HPQ.out; omega), i64w (by have := HPQ.out; omega) (by have := HPQ.out; omega)⟩)
      have hKK : -1 ≤ (P : Int) - 1 ∧ (P : Int) - 1 ≤ 1000 := by have := HPQ.out; omega
      have hKQ : -1 ≤ (Q : Int) ∧ (Q : Int) ≤ 1000 := by have := HPQ.out; omega
      have HKK := hid hKK
      have HKQ := hid hKQ
      have t2 : decide ((P : Int) < (Q : Int)) = true := decide_eq_true (by omega)
      clear hKK hKQ
      have ee1 := HE.out.1
      have ee2 := HE.out.2
      clear HE
      replace g0 := pw_cell_below hB.out g0
      replace g1 := pw_cell_below hB.out g1
      replace g2 := pw_cell_below hB.out g2
      replace g3 := pw_cell_below hB.out g3
      replace g4 := pw_cell_below hB.out g4
      go_wp2
      refine start_ (n := 10) (S := fun w' => w'.cell? ⟨w.heap.size, 0, none⟩ = some (.int .i64 s.ro) ∧ w'.cell? ⟨w.heap.size, 1, none⟩ = some (.slice A0 s.lv.length c0) ∧ w'.cell? ⟨w.heap.size, 2, none⟩ = some (.slice A1 s.ms.length c1) ∧ w'.cell? ⟨w.heap.size, 3, none⟩ = some (.slice A2 s.ts.length c2) ∧ w'.cell? ⟨w.heap.size, 4, none⟩ = some (.slice A3 s.bd.length c3)) (ds := [9]) #[false, false, false, false, false, false, false, false, false, false] (by kernel_rfl) rfl rfl ⟨g0, g1, g2, g3, g4⟩ (fun hHeld => ?_)
      refine tq_ (i := 0) (N := (some 57)) (v := ?_) (a' := ?_) rfl rfl (by kernel_rfl) (fun _ _ _ h => h) (Or.inl ⟨by rfl, ?_⟩) hHeld ?_ ?_
      rotate_left; (rintro w' ⟨s0, s1, s2, s3, s4⟩; go_simp; with_reducible rfl); rotate_left; (simp only [Act.put, s1_, s2_, s3_, i64_w, i32_w]; rfl)
      refine pq_ (i := 1) (N := (some 58)) (v := ?_) (a' := ?_) rfl rfl (by kernel_rfl) (fun _ _ _ h => h) (Or.inl ⟨by rfl, ?_⟩) ?_ ?_
      rotate_left; (intro w'; go_simp; with_reducible rfl); rotate_left; (simp only [Act.put, s1_, s2_, s3_, i64_w, i32_w]; rfl)
      refine pq_ (i := 2) (N := (some 59)) (v := ?_) (a' := ?_) rfl rfl (by kernel_rfl) (fun _ _ _ h => h) (Or.inl ⟨by rfl, ?_⟩) ?_ ?_
      rotate_left; (intro w'; go_simp; with_reducible rfl); rotate_left; (simp only [Act.put, s1_, s2_, s3_, i64_w, i32_w]; rfl)
      refine tq_ (i := 4) (N := (some 61)) (v := ?_) (a' := ?_) rfl rfl (by kernel_rfl) (fun _ _ _ h => h) (Or.inl ⟨by rfl, ?_⟩) hHeld ?_ ?_
      rotate_left; (rintro w' ⟨s0, s1, s2, s3, s4⟩; go_simp; with_reducible rfl); rotate_left; (simp only [Act.put, s1_, s2_, s3_, i64_w, i32_w]; rfl)
      refine pq_ (i := 5) (N := (some 62)) (v := ?_) (a' := ?_) rfl rfl (by kernel_rfl) (fun _ _ _ h => h) (Or.inl ⟨by rfl, ?_⟩) ?_ ?_
      rotate_left; (intro w'; go_simp; with_reducible rfl); rotate_left; (simp only [Act.put, s1_, s2_, s3_, i64_w, i32_w]; rfl)
      have H_ := hHeld
      clear H_ hHeld
      refine one_ (i := 3) (N := (some 60)) #[true, true, true, true, true, true, false, false, false, false] rfl rfl (by kernel_rfl) (by decide) (fun K hK => ?_)
      refine goes_ Try.func39 (by kernel_rfl) rfl #[.agg #[.int .i64 s.ro, .slice A0 s.lv.length c0, .slice A1 s.ms.length c1, .slice A2 s.ts.length c2, .slice A3 s.bd.length c3], .int .i64 ((P : Int) - 1)] (by rfl) rfl rfl (by (try simp only [List.map_toArray, List.map_cons, List.map_nil]); first | done | rfl) ?_
      refine (impl_ghost _ s ((P : Int) - 1) _ (hx0.r.to ((HB1.out.trans hB).trans (Bw.drawn ⟨⟨1, rfl⟩⟩))) hs HKK.out).mono ?_
      rintro e wa ⟨va, rfl, oa, ba⟩
      refine ⟨_, rfl, ?_⟩
      have bA := (Bw.drawn (a := wc) ⟨⟨1, rfl⟩⟩).trans ba
      refine hK.out _ _ ⟨pw_cell_below bA.out g0, pw_cell_below bA.out g1, pw_cell_below bA.out g2, pw_cell_below bA.out g3, pw_cell_below bA.out g4⟩ (fun _ => ?_)
      rename_i hJ_
      clear hJ_
      clear hK K; refine norm_ (a' := ?_) ?_ ?_; rotate_left; (show Act.put _ (some 60) _ = _; simp only [Act.put, s1_, s2_, s3_, i64_w, i32_w]; rfl)
      refine one_ (i := 6) (N := (some 63)) #[true, true, true, true, true, true, true, false, false, false] rfl rfl (by kernel_rfl) (by decide) (fun K hK => ?_)
      refine goes_ Try.func39 (by kernel_rfl) rfl #[.agg #[.int .i64 s.ro, .slice A0 s.lv.length c0, .slice A1 s.ms.length c1, .slice A2 s.ts.length c2, .slice A3 s.bd.length c3], .int .i64 Q] (by rfl) rfl rfl (by (try simp only [List.map_toArray, List.map_cons, List.map_nil]); first | done | rfl) ?_
      refine (impl_ghost _ s (Q : Int) _ (hx0.r.to ((HB1.out.trans hB).trans bA)) hs HKQ.out).mono ?_
      rintro e wb ⟨vb_, rfl, ob, bb⟩
      refine ⟨_, rfl, ?_⟩
      obtain ⟨XB, yB, rfl, _, fb⟩ := FO.reads (t := 3) (k := 1) ⟨ob.out⟩
      have bB := bA.trans bb
      refine hK.out _ _ ⟨pw_cell_below bB.out g0, pw_cell_below bB.out g1, pw_cell_below bB.out g2, pw_cell_below bB.out g3, pw_cell_below bB.out g4⟩ (fun _ => ?_)
      rename_i hJ_
      clear hJ_
      clear hK K; refine norm_ (a' := ?_) ?_ ?_; rotate_left; (show Act.put _ (some 63) _ = _; simp only [Act.put, s1_, s2_, s3_, i64_w, i32_w]; rfl)
      refine one_ (i := 7) (N := (some 64)) #[true, true, true, true, true, true, true, true, false, false] rfl rfl (by kernel_rfl) (by decide) (fun K hK => ?_)
      have oa' := oa.to bb
      refine appendInts_step (w0 := wc) wc.heap.size (by rfl) (.tmp 60) (.tmp 63) rfl va (ghost s ((P : Int) - 1)) (ghost s (Q : Int)) XB 4 yB rfl rfl (by rw [ghost_len]; exact OI.less0 oa' (by have := (Bw.drawn (a := wc) ⟨⟨1, rfl⟩⟩).size; omega)) fb.ri bB.out bB.size (by rw [ghost_len]; omega) ?_
      intro vg wd od hBd hgd had
      have hkB := (bB.out.block _ (blk_lt hk)).trans hk
      have hkD := blk_grown hkB hgd (own_ne oa'.out hkB (by decide))
      obtain ⟨XG, yG, rfl, _, _⟩ := FO.reads (t := 3) (k := 1) ⟨od.out⟩
      refine hK.out _ _ ⟨pw_cell_below hBd g0, pw_cell_below hBd g1, pw_cell_below hBd g2, pw_cell_below hBd g3, pw_cell_below hBd g4⟩ (fun _ => ?_)
      rename_i hJ_
      clear hJ_
      clear hK K; refine norm_ (a' := ?_) ?_ ?_; rotate_left; (show Act.put _ (some 64) _ = _; simp only [Act.put, s1_, s2_, s3_, i64_w, i32_w]; rfl)
      refine pq_ (i := 8) (N := (some 65)) (v := ?_) (a' := ?_) rfl rfl (by kernel_rfl) (fun _ _ _ h => h) (Or.inl ⟨by rfl, ?_⟩) ?_ ?_
      rotate_left; (intro w'; go_simp; with_reducible rfl); rotate_left; (simp only [Act.put, s1_, s2_, s3_, i64_w, i32_w]; rfl)
      refine last_ (i := 9) (N := none) #[true, true, true, true, true, true, true, true, true, true] rfl rfl (by kernel_rfl) (by decide) (fun K hK => ?_)
      have hs6 := (blk_cell hkD 6).trans (show _ = some z30 from rfl)
      have hf6 := blk_frozen hkD 6
      refine skip_ (w1 := ?_) (by rfl) rfl ?_ ?_
      rotate_left
      ·go_simp
       rfl
      refine hK.out _ _ ?_
      clear hK K
      refine done_ (by kernel_rfl) ?_
      have hBz0 := Bw.grown bB hgd (OI.less0 oa' (show wc.heap.size ≤ _ by have := (Bw.drawn (a := wc) ⟨⟨1, rfl⟩⟩).size; exact this)) (Nat.le_refl _)
      have hn8 : (ghost s ((P : Int) - 1)).length + (ghost s (Q : Int)).length = 8 := by rw [ghost_len, ghost_len]
      have hgh : ghosts s P Q = ghost s ((P : Int) - 1) ++ ghost s (Q : Int) := by rw [ghosts, if_pos hPQ]
      simp only [List.length_append] at od
      rw [hn8] at od ⊢
      rw [← hgh] at od
      have og : FO wd wc.heap.size 3 1 (.slice XG 8 yG) 8 (ghosts s P Q) := ⟨od.out⟩
      have hcs := hB.size
      have PV : PVw (wd.setCell ⟨G, 6, none⟩ (.slice XG 8 yG)) W1.heap.size s P Q z11 z18 z25 z29 (.slice XG 8 yG) := ⟨(R11.o.to hBz0).blkT hkD (by decide), (R18.o.to hBz0).blkT hkD (by decide), (R25.o.to hBz0).blkT hkD (by decide), (R29.o.to hBz0).blkT hkD (by decide), (og.blkT hkD (by decide)).less hcs, R11.apart R18 (by decide), R11.apart R25 (by decide), R11.apart R29 (by decide), Apart.ofO R11.o og (Nat.le_refl _), R18.apart R25 (by decide), R18.apart R29 (by decide), Apart.ofO R18.o og (Nat.le_refl _), R25.apart R29 (by decide), Apart.ofO R25.o og (Nat.le_refl _), Apart.ofO R29.o og (Nat.le_refl _)⟩
      have hkz : (wd.setCell ⟨G, 6, none⟩ (.slice XG 8 yG)).heap[G]? = some (.cells #[.int .i64 s.ro, .int .i64 P, z11, z18, z25, z29, .slice XG 8 yG] 46 (0, 0)) := (blk_set hkD 6 (.slice XG 8 yG)).trans rfl
      have hBz : Bw W1 (wd.setCell ⟨G, 6, none⟩ (.slice XG 8 yG)) := bw_set (hB.trans hBz0) hG _ _
      go_wp2
      go_meet
      case rel => exact ⟨_, PV, hkz, hBz⟩
     case neg =>
      have t2 : decide ((P : Int) < (Q : Int)) = false := decide_eq_false (by omega)
      have hgh : ghosts s P Q = [0, 0, 0, 0, 0, 0, 0, 0] := by rw [ghosts, if_neg hPQ]
      have PV : PVw wc W1.heap.size s P Q z11 z18 z25 z29 z30 := ⟨R11.o, R18.o, R25.o, R29.o, by rw [hgh]; exact R30.o, R11.apart R18 (by decide), R11.apart R25 (by decide), R11.apart R29 (by decide), R11.apart R30 (by decide), R18.apart R25 (by decide), R18.apart R29 (by decide), R18.apart R30 (by decide), R25.apart R29 (by decide), R25.apart R30 (by decide), R29.apart R30 (by decide)⟩
      have HPV := hid PV
      clear PV hgh R11 R18 R25 R29 R30
      go_wp2
      go_meet
      case rel => exact ⟨_, HPV.out, hk, hB⟩
    case rest =>
     clear R11 R18 R25 R29 R30 hk
     obtain ⟨zg, PV, hkz, hBz⟩ := hcut
     generalize hwz : wc = wz at *
     clear hwz g0 g1 g2 g3 g4 hB
     obtain ⟨X0, y0, X1, y1, X2, y2, X3, y3, X4, y4, rfl, rfl, rfl, rfl, rfl⟩ := PV.forms
     have hb0 := blk_cell hkz 0
     have hb1 := blk_cell hkz 1
     have hb2 := blk_cell hkz 2
     have hb3 := blk_cell hkz 3
     have hb4 := blk_cell hkz 4
     have hb5 := blk_cell hkz 5
     have hb6 := blk_cell hkz 6
     simp only [List.getElem?_toArray, List.getElem?_cons_zero, List.getElem?_cons_succ] at hb0 hb1 hb2 hb3 hb4 hb5 hb6
     have HPV := hid PV
     have HBZ := hid hBz
     have HGG := hid hG
     have HKZ := hid hkz
     clear PV hBz hG hkz
     have HV2 := hid (HV1.out.to HBZ.out)
     go_wp2_with (at_builtin; refine print_append_cells (w0 := w) w.heap.size rfl _ _ 24 46 (.agg #[.int .i64 0, .int .i64 0, .slice none 0 0, .slice none 0 0, .slice none 0 0, .slice none 0 0, .slice none 0 0]) 7 136 rfl Try.underlying24 info_view rfl (by decide) (by decide) u5 j xs [.int .i64 s.ro, .int .i64 P, .slice X0 (Q - P) y0, .slice X1 (Q - P) y1, .slice X2 (Q - P) y2, .slice X3 s.bd.length y3, .slice X4 8 y4] rfl rfl rfl (by intro u hu; simp at hu; rcases hu with rfl | rfl | rfl | rfl | rfl | rfl | rfl <;> rfl) HV2.out.row (HB1.out.trans HBZ.out).out (HB1.out.trans HBZ.out).size (by omega) ?_; intro v1 wd od hBd hgd had; clear hb0 hb1 hb2 hb3 hb4 hb5 hb6; have HOD := hid od; have HBD := hid (show Bw w wd from ⟨hBd⟩); have HGD := hid hgd; have HAD := hid had; clear od hBd hgd had)
     have hkA : wz.heap[w.heap.size]? = some (.cells #[.int .i64 s.ro, .slice A0 s.lv.length c0, .slice A1 s.ms.length c1, .slice A2 s.ts.length c2, .slice A3 s.bd.length c3] 39 (0, 0)) := (HBZ.out.out.block _ (blk_lt HK1.out)).trans HK1.out
     have hkD := blk_grown hkA HGD.out (own_ne HV2.out.row hkA (by decide))
     have hVE := VG.app HV2.out HOD.out HGD.out HAD.out (bn := W1.heap.size) (en := wz.heap.size) ⟨HB1.out.size, HBZ.out.size, Nat.le_refl _⟩ (fun i hi => by have := HV1.out.iv i hi; omega) (fun g hg => by have := own_lt HV1.out.row g hg; omega) (by simp only [HP.out, HQ.out]; exact HPV.out.vio)
     go_roundw
     case rel => exact ⟨j + 1, _, _, _, by omega, by go_num, hid hVE, hkD, HBD.out⟩
     case measure => simp [intOf]; omega
  ·obtain rfl : j = n - 1 := by omega
   have t1 : decide (((n - 1 : Nat) : Int) < (n : Int) - 1) = false := decide_eq_false (by omega)
   have hR := hV.out.vwo (L := parts s cuts) (by rw [parts_length, HL.out]) (fun i hi => parts_at s cuts i (by rw [HL.out]; exact hi))
   obtain ⟨⟨e1, e2⟩, em, em2⟩ := HEE.out
   clear HEE
   go_wp2
   exact bodyPost_ret (v := u5) (by clear hR hV; simp [results, Try.results18, go_sem]) rfl ⟨_, rfl, hR, hB⟩
end Go.Proofs.Ytgdkffddcbjmmaa.U
set_option linter.unusedVariables false
set_option linter.unusedSimpArgs false
namespace Go.Proofs.Ytgdkffddcbjmmaa.U
open Go.RowKit Go.Lib Go.Proofs.YtgdkffddcbjmmaaW.PrintWords
theorem VwO.emp (w : World) (lo hi : Nat) : VwO w lo hi (.slice none 0 0) 0 [] := ⟨_, _, rfl, rfl, by omega, fun h0 => by omega⟩
theorem VwO.lit0 (w : World) (lo : Nat) (h : lo ≤ w.heap.size) : VwO (w.alloc (.cells #[] 46)) lo (w.alloc (.cells #[] 46)).heap.size (.slice (some ⟨w.heap.size, 0, none⟩) 0 0) 0 [] :=
 (VG.nil _ lo w.heap.size (fun _ => partV sta0 0 0) (World.ownsRow_lit (base := lo) (e := 46) (size := 7) w #[] 0 h (by simp [maxLen]) (by simp))).vwo (L := []) rfl (fun i hi => by omega)
theorem VwO.less {w : World} {lo lo' hi n : Nat} {v : Value} {L : List Vf} (h : VwO w lo hi v n L) (hl : lo' ≤ lo) : VwO w lo' hi v n L := by
 obtain ⟨A, c, rfl, h1, h2, h3⟩ := h
 refine ⟨_, _, rfl, h1, h2, fun h0 => ?_⟩
 obtain ⟨g, cs, b, e, rfl, hb⟩ := h3 h0
 exact ⟨g, cs, b, e, rfl, ⟨hb.blk, ⟨Nat.le_trans hl hb.ing.1, hb.ing.2⟩, hb.size, fun i hi => ⟨Nat.le_trans hl (hb.iv i hi).1, (hb.iv i hi).2⟩, hb.sep, hb.el⟩⟩
end Go.Proofs.Ytgdkffddcbjmmaa.U
set_option linter.unusedVariables false
set_option linter.unusedSimpArgs false
namespace Go.Proofs.Ytgdkffddcbjmmaa.U
open Go.RowKit Go.Lib Go.Proofs.YtgdkffddcbjmmaaW.PrintWords
end Go.Proofs.Ytgdkffddcbjmmaa.U
