
/- Parts of a state in a row, by the reference. -/
import Derived.Test.YtaemkneppphkmaaG6
import Derived.Test.YtaemkneppphkmaaG8
set_option linter.unusedVariables false
set_option linter.unusedSimpArgs false
namespace Go.Proofs.Ytaemkneppphkmaa.U
open Go.RowKit Go.Lib Go.Proofs.YtaemkneppphkmaaW.PrintWords

open Go.Proofs.YtaemkneppphkmaaW.PrintLast Go.Proofs.YtaemkneppphkmaaW.PrintMore
/-- the view of the leaves from p up to q -/
def partV (s : Sta) (p q : Nat) : Vf := ⟨s.ro, (p : Int), idF ((s.lv.take q).drop p), (s.ms.take q).drop p, (s.ts.take q).drop p, s.bd, ghosts s p q⟩
def ct (cuts : List Int) (j : Nat) : Nat := (rd cuts (j : Int)).toNat
def parts (s : Sta) (cuts : List Int) : List Vf := (List.range (cuts.length - 1)).map fun j => partV s (ct cuts j) (ct cuts (j + 1))
theorem parts_length (s : Sta) (cuts : List Int) : (parts s cuts).length = cuts.length - 1 := by simp [parts]
theorem parts_at (s : Sta) (cuts : List Int) (j : Nat) (h : j < cuts.length - 1) : gv (parts s cuts) j = partV s (ct cuts j) (ct cuts (j + 1)) := by
  rw [gv_at (by rw [parts_length]; exact h)]
  simp [parts]
theorem PVw.vio {w : World} {lo : Nat} {s : Sta} {p q : Nat} {vl vm vt vb vg : Value} (h : PVw w lo s p q vl vm vt vb vg) : ViO w lo w.heap.size (partV s p q) (fun f => [.int .i64 s.ro, .int .i64 (p : Int), vl, vm, vt, vb, vg][f]?) :=
  ⟨vl, vm, vt, vb, vg, _, _, _, _, _, rfl, rfl, rfl, rfl, rfl, rfl, rfl, h.l.rw, h.m.rw, h.t.rw, h.b.rw, h.g.rw, h.ap⟩
theorem spec_l24Part' (x : Value) (s : Sta) (p q : Nat) (w : World) (hx : StC w x s) (hs : StF s) (hpq : p ≤ q ∧ q ≤ s.lv.length) :
    Calls Try.prog 96 #[x, .int .i64 p, .int .i64 q] w fun e w' => ∃ (X0 : Option Addr) (y0 : Nat) (X1 : Option Addr) (y1 : Nat) (X2 : Option Addr) (y2 : Nat) (X3 : Option Addr) (y3 : Nat) (X4 : Option Addr) (y4 : Nat), e = .returned (.agg #[.int .i64 s.ro, .int .i64 p, .slice X0 (q - p) y0, .slice X1 (q - p) y1, .slice X2 (q - p) y2, .slice X3 s.bd.length y3, .slice X4 8 y4]) ∧ PVw w' (w.heap.size + 2) s p q (.slice X0 (q - p) y0) (.slice X1 (q - p) y1) (.slice X2 (q - p) y2) (.slice X3 s.bd.length y3) (.slice X4 8 y4) ∧ w.heap.size + 2 ≤ w'.heap.size ∧ Bw w w' := by
  refine (spec_l24Part x s p q w hx hs hpq.1 hpq.2).mono ?_
  rintro e w' ⟨vl, vm, vt, vb, vg, rfl, PV, hz, b⟩
  obtain ⟨X0, y0, X1, y1, X2, y2, X3, y3, X4, y4, rfl, rfl, rfl, rfl, rfl⟩ := PV.forms
  exact ⟨X0, y0, X1, y1, X2, y2, X3, y3, X4, y4, rfl, PV, hz, b⟩
set_option maxHeartbeats 16000000 in
set_option maxRecDepth 100000 in
theorem spec_l24Split (x : Value) (s : Sta) (C : Option Addr) (n c : Nat) (cuts : List Int) (w : World) (hx : StC w x s) (hs : StF s) (r : RI w C n cuts) (hc : cutsOk s.lv.length cuts = true) :
    Calls Try.prog 69 #[x, .slice C n c] w fun e w' => ∃ v, e = .returned v ∧ VwO w' w.heap.size w'.heap.size v (n - 1) (parts s cuts) ∧ Bw w w' := by
  have hx0 := hx
  obtain ⟨A0, c0, A1, c1, A2, c2, A3, c3, rfl, r0, r1, r2, r3, k0, k1, k2, k3⟩ := hx
  have hlen := r.len
  obtain ⟨⟨f1, f2⟩, _, _, _⟩ := cutsOk_facts hc
  rw [hlen] at f1 f2
  have HCU := hid (fun j hj => cut_at hc j hj)
  have HL := hid hlen
  have b0 := Bw.box1 w (.cells #[.int .i64 s.ro, .slice A0 s.lv.length c0, .slice A1 s.ms.length c1, .slice A2 s.ts.length c2, .slice A3 s.bd.length c3] 36)
  have hk0 := heap_alloc_new w (.cells #[.int .i64 s.ro, .slice A0 s.lv.length c0, .slice A1 s.ms.length c1, .slice A2 s.ts.length c2, .slice A3 s.bd.length c3] 36 (0, 0))
  have b1 := Bw.box1 (w.alloc (.cells #[.int .i64 s.ro, .slice A0 s.lv.length c0, .slice A1 s.ms.length c1, .slice A2 s.ts.length c2, .slice A3 s.bd.length c3] 36)) (.cells #[] 45)
  have hk1 := (b1.out.block _ (blk_lt hk0)).trans hk0
  have o0 : ((w.alloc (.cells #[.int .i64 s.ro, .slice A0 s.lv.length c0, .slice A1 s.ms.length c1, .slice A2 s.ts.length c2, .slice A3 s.bd.length c3] 36)).alloc (.cells #[] 45)).ownsRow w.heap.size 45 7 (.slice (some ⟨w.heap.size + 1, 0, none⟩) 0 0) 0 [] := by
    have h := World.ownsRow_lit (base := w.heap.size) (e := 45) (size := 7) (w.alloc (.cells #[.int .i64 s.ro, .slice A0 s.lv.length c0, .slice A1 s.ms.length c1, .slice A2 s.ts.length c2, .slice A3 s.bd.length c3] 36)) #[] 0 b0.size (by simp [maxLen]) (by simp)
    rwa [show (w.alloc (.cells #[.int .i64 s.ro, .slice A0 s.lv.length c0, .slice A1 s.ms.length c1, .slice A2 s.ts.length c2, .slice A3 s.bd.length c3] 36)).heap.size = w.heap.size + 1 by simp] at h
  have H0 := hid (VG.nil _ _ 0 (fun j => partV s (ct cuts j) (ct cuts (j + 1))) o0)
  have B0 := b0.trans b1
  clear b0 b1 hk0 o0 hc hlen r0 r1 r2 r3 k0 k1 k2 k3
  go_enter Try.func69, Try.ntmps69
  go_wp2
  go_loopw [5, 6] (fun v5 v6 wr => ∃ (j : Nat) (xs : List Value) (b e : Nat → Nat), j ≤ n - 1 ∧ v6 = .int .i64 j ∧ Hid (VG wr w.heap.size v5 j (fun j => partV s (ct cuts j) (ct cuts (j + 1))) xs b e) ∧ wr.heap[w.heap.size]? = some (.cells #[.int .i64 s.ro, .slice A0 s.lv.length c0, .slice A1 s.ms.length c1, .slice A2 s.ts.length c2, .slice A3 s.bd.length c3] 36 (0, 0)) ∧ Bw w wr) (fun _ v6 _ => n - (intOf v6).toNat)
  case atStart => exact ⟨0, _, _, _, by omega, rfl, H0, hk1, B0⟩
  case round =>
    obtain ⟨j, xs, b, e, hj, rfl, hV, hk, hB⟩ := hrel
    clear H0 hk1 B0
    have g0 := blk_cell hk 0
    have g1 := blk_cell hk 1
    have g2 := blk_cell hk 2
    have g3 := blk_cell hk 3
    have g4 := blk_cell hk 4
    simp only [List.getElem?_toArray, List.getElem?_cons_zero, List.getElem?_cons_succ] at g0 g1 g2 g3 g4
    have e1 : wrap64 ((j : Int) + 1) = (j : Int) + 1 := w64 (by omega) (by omega)
    have e2 : IntKind.i64.wrap ((j : Int) + 1) = (j : Int) + 1 := i64w (by omega) (by omega)
    by_cases hlt : j + 1 < n
    · have t1 : decide ((j : Int) + 1 < (n : Int)) = true := decide_eq_true (by omega)
      obtain ⟨ad, rfl, m0⟩ := (r.to hB).nat j (by omega)
      obtain ⟨_, ea, m1⟩ := (r.to hB).nat (j + 1) hlt
      obtain rfl := Option.some.inj ea
      rw [add_pos _ _ (by omega)] at m1
      obtain ⟨h0, h1, h2⟩ := (HCU.out j (by rw [HL.out]; omega)).out
      obtain ⟨P, hP⟩ : ∃ P : Nat, ct cuts j = P := ⟨_, rfl⟩
      obtain ⟨Q, hQ⟩ : ∃ Q : Nat, ct cuts (j + 1) = Q := ⟨_, rfl⟩
      have hP2 : rd cuts (j : Int) = (P : Int) := by rw [← hP, ct]; omega
      have hQ2 : rd cuts ((j + 1 : Nat) : Int) = (Q : Int) := by rw [← hQ, ct]; omega
      rw [hP2] at m0
      rw [hQ2] at m1
      have HPQ := hid (show P ≤ Q ∧ Q ≤ s.lv.length by omega)
      have i0 : (0 : Int) ≤ (j : Int) := by omega
      have i1 : (j : Int) < (n : Int) := by omega
      have i2 : (j : Int) + 1 < (n : Int) := by omega
      have i3 : (0 : Int) ≤ (j : Int) + 1 := by omega
      have HP := hid hP
      have HQ := hid hQ
      have HK := hid hk
      clear h0 h1 h2 hP hQ hP2 hQ2 ea hk
      go_wp2
      refine start_ (n := 15) (S := fun w' => w'.cell? ⟨w.heap.size, 0, none⟩ = some (.int .i64 s.ro) ∧ w'.cell? ⟨w.heap.size, 1, none⟩ = some (.slice A0 s.lv.length c0) ∧ w'.cell? ⟨w.heap.size, 2, none⟩ = some (.slice A1 s.ms.length c1) ∧ w'.cell? ⟨w.heap.size, 3, none⟩ = some (.slice A2 s.ts.length c2) ∧ w'.cell? ⟨w.heap.size, 4, none⟩ = some (.slice A3 s.bd.length c3) ∧ w'.cell? (ad.add j) = some (.int .i64 P) ∧ w'.cell? ⟨ad.block, ad.off + (j + 1), none⟩ = some (.int .i64 Q)) (ds := [12, 13, 14]) #[false, false, false, false, false, false, false, false, false, false, false, false, false, false, false] (by kernel_rfl) rfl rfl ⟨g0, g1, g2, g3, g4, m0, m1⟩ (fun hHeld => ?_)
      refine pure_ (i := 0) (N := (some 15)) (v := ?_) (a' := ?_) #[true, false, false, false, false, false, false, false, false, false, false, false, false, false, false] rfl rfl (by kernel_rfl) (fun _ _ _ h => h) (Or.inl ⟨by rfl, ?_⟩) ?_ ?_
      rotate_left
      · intro w'
        go_simp
        with_reducible rfl
      rotate_left
      · simp only [Act.put, List.setIfInBounds_toArray, List.set_cons_zero, List.set_cons_succ, i64_w, i32_w]
        rfl
      refine take_ (i := 1) (N := (some 16)) (v := ?_) (a' := ?_) #[true, true, false, false, false, false, false, false, false, false, false, false, false, false, false] rfl rfl (by kernel_rfl) (fun _ _ _ h => h) (Or.inl ⟨by rfl, ?_⟩) hHeld ?_ ?_
      rotate_left
      · rintro w' ⟨s0, s1, s2, s3, s4, s5, s6⟩
        go_simp
        with_reducible rfl
      rotate_left
      · simp only [Act.put, List.setIfInBounds_toArray, List.set_cons_zero, List.set_cons_succ, i64_w, i32_w]
        rfl
      refine pure_ (i := 2) (N := (some 17)) (v := ?_) (a' := ?_) #[true, true, true, false, false, false, false, false, false, false, false, false, false, false, false] rfl rfl (by kernel_rfl) (fun _ _ _ h => h) (Or.inl ⟨by rfl, ?_⟩) ?_ ?_
      rotate_left
      · intro w'
        go_simp
        with_reducible rfl
      rotate_left
      · simp only [Act.put, List.setIfInBounds_toArray, List.set_cons_zero, List.set_cons_succ, i64_w, i32_w]
        rfl
      refine pure_ (i := 3) (N := (some 18)) (v := ?_) (a' := ?_) #[true, true, true, true, false, false, false, false, false, false, false, false, false, false, false] rfl rfl (by kernel_rfl) (fun _ _ _ h => h) (Or.inl ⟨by rfl, ?_⟩) ?_ ?_
      rotate_left
      · intro w'
        go_simp
        with_reducible rfl
      rotate_left
      · simp only [Act.put, List.setIfInBounds_toArray, List.set_cons_zero, List.set_cons_succ, i64_w, i32_w]
        rfl
      refine pure_ (i := 4) (N := (some 19)) (v := ?_) (a' := ?_) #[true, true, true, true, true, false, false, false, false, false, false, false, false, false, false] rfl rfl (by kernel_rfl) (fun _ _ _ h => h) (Or.inl ⟨by rfl, ?_⟩) ?_ ?_
      rotate_left
      · intro w'
        go_simp
        with_reducible rfl
      rotate_left
      · simp only [Act.put, List.setIfInBounds_toArray, List.set_cons_zero, List.set_cons_succ, i64_w, i32_w]
        rfl
      refine take_ (i := 5) (N := (some 20)) (v := ?_) (a' := ?_) #[true, true, true, true, true, true, false, false, false, false, false, false, false, false, false] rfl rfl (by kernel_rfl) (fun _ _ _ h => h) (Or.inl ⟨by rfl, ?_⟩) hHeld ?_ ?_
      rotate_left
      · rintro w' ⟨s0, s1, s2, s3, s4, s5, s6⟩
        go_simp
        with_reducible rfl
      rotate_left
      · simp only [Act.put, List.setIfInBounds_toArray, List.set_cons_zero, List.set_cons_succ, i64_w, i32_w]
        rfl
      refine pure_ (i := 6) (N := (some 21)) (v := ?_) (a' := ?_) #[true, true, true, true, true, true, true, false, false, false, false, false, false, false, false] rfl rfl (by kernel_rfl) (fun _ _ _ h => h) (Or.inl ⟨by rfl, ?_⟩) ?_ ?_
      rotate_left
      · intro w'
        go_simp
        with_reducible rfl
      rotate_left
      · simp only [Act.put, List.setIfInBounds_toArray, List.set_cons_zero, List.set_cons_succ, i64_w, i32_w]
        rfl
      refine pure_ (i := 7) (N := (some 22)) (v := ?_) (a' := ?_) #[true, true, true, true, true, true, true, true, false, false, false, false, false, false, false] rfl rfl (by kernel_rfl) (fun _ _ _ h => h) (Or.inl ⟨by rfl, ?_⟩) ?_ ?_
      rotate_left
      · intro w'
        go_simp
        with_reducible rfl
      rotate_left
      · simp only [Act.put, List.setIfInBounds_toArray, List.set_cons_zero, List.set_cons_succ, i64_w, i32_w]
        rfl
      refine pure_ (i := 8) (N := (some 23)) (v := ?_) (a' := ?_) #[true, true, true, true, true, true, true, true, true, false, false, false, false, false, false] rfl rfl (by kernel_rfl) (fun _ _ _ h => h) (Or.inl ⟨by rfl, ?_⟩) ?_ ?_
      rotate_left
      · intro w'
        go_simp
        with_reducible rfl
      rotate_left
      · simp only [Act.put, List.setIfInBounds_toArray, List.set_cons_zero, List.set_cons_succ, i64_w, i32_w]
        rfl
      refine pure_ (i := 9) (N := (some 24)) (v := ?_) (a' := ?_) #[true, true, true, true, true, true, true, true, true, true, false, false, false, false, false] rfl rfl (by kernel_rfl) (fun _ _ _ h => h) (Or.inl ⟨by rfl, ?_⟩) ?_ ?_
      rotate_left
      · intro w'
        go_simp
        with_reducible rfl
      rotate_left
      · simp only [Act.put, List.setIfInBounds_toArray, List.set_cons_zero, List.set_cons_succ, i64_w, i32_w]
        rfl
      refine take_ (i := 10) (N := (some 25)) (v := ?_) (a' := ?_) #[true, true, true, true, true, true, true, true, true, true, true, false, false, false, false] rfl rfl (by kernel_rfl) (fun _ _ _ h => h) (Or.inl ⟨by rfl, ?_⟩) hHeld ?_ ?_
      rotate_left
      · rintro w' ⟨s0, s1, s2, s3, s4, s5, s6⟩
        go_simp
        with_reducible rfl
      rotate_left
      · simp only [Act.put, List.setIfInBounds_toArray, List.set_cons_zero, List.set_cons_succ, i64_w, i32_w]
        rfl
      refine one_ (i := 11) (N := (some 26)) #[true, true, true, true, true, true, true, true, true, true, true, true, false, false, false] rfl rfl (by kernel_rfl) (by decide) (fun K hK => ?_)
      refine goes_ Try.func96 (by kernel_rfl) rfl #[.agg #[.int .i64 s.ro, .slice A0 s.lv.length c0, .slice A1 s.ms.length c1, .slice A2 s.ts.length c2, .slice A3 s.bd.length c3], .int .i64 P, .int .i64 Q] (by rfl) rfl rfl (by (try simp only [List.map_toArray, List.map_cons, List.map_nil]); first | done | rfl) ?_
      refine (spec_l24Part' _ s P Q _ (hx0.to (hB.trans (Bw.drawn ⟨⟨1, rfl⟩⟩))) hs HPQ.out).mono ?_
      rintro e wa ⟨X0, y0, X1, y1, X2, y2, X3, y3, X4, y4, rfl, PV, hsz, ba⟩
      refine ⟨_, rfl, ?_⟩
      have bA := (Bw.drawn (a := wr) ⟨⟨1, rfl⟩⟩).trans ba
      refine hK.out _ _ ⟨pw_cell_below bA.out g0, pw_cell_below bA.out g1, pw_cell_below bA.out g2, pw_cell_below bA.out g3, pw_cell_below bA.out g4, pw_cell_below bA.out m0, pw_cell_below bA.out m1⟩ (fun hHeld => ?_)
      clear hK K
      refine norm_ (a' := ?_) ?_ ?_
      rotate_left
      · show Act.put _ (some 26) _ = _
        simp only [Act.put, List.setIfInBounds_toArray, List.set_cons_zero, List.set_cons_succ, i64_w, i32_w]
        rfl
      refine last_ (i := 12) (N := (some 27)) #[true, true, true, true, true, true, true, true, true, true, true, true, true, false, false] rfl rfl (by kernel_rfl) (by decide) (fun K hK => ?_)
      refine value_ (w1 := ?_) (v := ?_) (by rfl) rfl ?_ ?_
      rotate_left 2
      · go_simp
        constructor
        · rfl
        · rfl
      refine hK.out _ _ ?_
      clear hK K
      refine norm_ (a' := ?_) ?_ ?_
      rotate_left
      · show Act.put _ (some 27) _ = _
        simp only [Act.put, List.setIfInBounds_toArray, List.set_cons_zero, List.set_cons_succ, i64_w, i32_w]
        rfl
      refine last_ (i := 13) (N := (some 28)) #[true, true, true, true, true, true, true, true, true, true, true, true, true, true, false] rfl rfl (by kernel_rfl) (by decide) (fun K hK => ?_)
      have hV' := hV.out.to bA
      refine step_append_cells (w0 := w) w.heap.size (by rfl) (.tmp 15) (.tmp 27) 40 45 (.agg #[.int .i64 0, .int .i64 0, .slice none 0 0, .slice none 0 0, .slice none 0 0, .slice none 0 0, .slice none 0 0]) 7 136 rfl Try.underlying40 info_view rfl (by decide) (by decide) u5 j xs [.int .i64 s.ro, .int .i64 P, .slice X0 (Q - P) y0, .slice X1 (Q - P) y1, .slice X2 (Q - P) y2, .slice X3 s.bd.length y3, .slice X4 8 y4] rfl rfl rfl (by intro u hu; simp at hu; rcases hu with rfl | rfl | rfl | rfl | rfl | rfl | rfl <;> rfl) hV'.row (hB.trans bA).out (hB.trans bA).size (by omega) ?_
      intro v1 wd od hBd hgd had
      refine hK.out _ _ ?_
      clear hK K
      refine norm_ (a' := ?_) ?_ ?_
      rotate_left
      · show Act.put _ (some 28) _ = _
        simp only [Act.put, List.setIfInBounds_toArray, List.set_cons_zero, List.set_cons_succ, i64_w, i32_w]
        rfl
      have hkA : wa.heap[w.heap.size]? = some (.cells #[.int .i64 s.ro, .slice A0 s.lv.length c0, .slice A1 s.ms.length c1, .slice A2 s.ts.length c2, .slice A3 s.bd.length c3] 36 (0, 0)) := (bA.out.block _ (blk_lt HK.out)).trans HK.out
      have hkD := blk_grown hkA hgd (own_ne hV'.row hkA (by decide))
      have hsr : (wr.drewN 1).heap.size = wr.heap.size := rfl
      have HV2 := hid (VG.app hV' od hgd had (bn := (wr.drewN 1).heap.size + 2) (en := wa.heap.size) ⟨by have := hB.size; omega, hsz, Nat.le_refl _⟩ (fun i hi => by have := hV.out.iv i hi; omega) (fun g hg => by have := own_lt hV.out.row g hg; omega) (by simp only [HP.out, HQ.out]; exact PV.vio))
      have HKD := hid hkD
      have HBD := hid (show Bw w wd from ⟨hBd⟩)
      clear hkD hkA hBd hgd had od hV' PV hHeld bA ba hsz hsr
      refine last_ (i := 14) (N := (some 5)) #[true, true, true, true, true, true, true, true, true, true, true, true, true, true, true] rfl rfl (by kernel_rfl) (by decide) (fun K hK => ?_)
      refine value_ (w1 := ?_) (v := ?_) (by rfl) rfl ?_ ?_
      rotate_left 2
      · go_simp
        constructor
        · rfl
        · rfl
      refine hK.out _ _ ?_
      clear hK K
      refine norm_ (a' := ?_) ?_ ?_
      rotate_left
      · show Act.put _ (some 5) _ = _
        simp only [Act.put, List.setIfInBounds_toArray, List.set_cons_zero, List.set_cons_succ, i64_w, i32_w]
        rfl
      refine done_ (by kernel_rfl) ?_
      go_wp2
      go_roundw
      case rel => exact ⟨j + 1, _, _, _, by omega, by go_num, HV2, HKD.out, HBD.out⟩
      case measure => simp [intOf]; omega
    · obtain rfl : j = n - 1 := by omega
      have t1 : decide (((n - 1 : Nat) : Int) + 1 < (n : Int)) = false := decide_eq_false (by omega)
      have hR := hV.out.vwo (L := parts s cuts) (by rw [parts_length, HL.out]) (fun i hi => parts_at s cuts i (by rw [HL.out]; exact hi))
      go_wp2
      exact bodyPost_ret (v := u5) (by clear hR hV; simp [results, Try.results69, go_sem]) rfl ⟨_, rfl, hR, hB⟩
end Go.Proofs.Ytaemkneppphkmaa.U
