
/- The law FnEvents returns true at all codes. -/
import Derived.Test.YtkendhkaheoinaaG24
import Derived.Test.YtkendhkaheoinaaEg
import Derived.Test.YtkendhkaheoinaaG13
import Derived.Test.YtkendhkaheoinaaG10
import Derived.Test.YtkendhkaheoinaaG8
set_option linter.unusedVariables false
set_option linter.unusedSimpArgs false
namespace Go.Proofs.Ytkendhkaheoinaa.U
open Go.RowKit Go.Lib Go.Proofs.YtkendhkaheoinaaW.PrintWords

open Go.Proofs.YtkendhkaheoinaaW.PrintLast Go.Proofs.YtkendhkaheoinaaW.PrintMore
theorem StR_mE {w : World} {x : Value} {s z : Sta} {m : Nat} (h : StR w x z) (e : z.ro = s.ro ∧ z.lv.length = m ∧ z.ms.length = m ∧ z.ts.length = m ∧ z.bd.length = s.bd.length) :
    ∃ (A0 : Option Addr) (c0 : Nat) (A1 : Option Addr) (c1 : Nat) (A2 : Option Addr) (c2 : Nat) (A3 : Option Addr) (c3 : Nat), x = .agg #[.int .i64 s.ro, .slice A0 m c0, .slice A1 m c1, .slice A2 m c2, .slice A3 s.bd.length c3] ∧ RI w A1 m z.ms := by
  obtain ⟨A0, c0, A1, c1, A2, c2, A3, c3, rfl, r0, r1, r2, r3⟩ := h
  obtain ⟨e0, e1, e2, e3, e4⟩ := e
  rw [e0, e1, e2, e3, e4]
  rw [e2] at r1
  exact ⟨_, _, _, _, _, _, _, _, rfl, r1⟩
set_option maxHeartbeats 8000000 in
set_option maxRecDepth 100000 in
theorem law_Events (A : Option Addr) (n c : Nat) (l : List Int) (w : World) (r : ReadsInt w .u8 A n l) (wf : ∀ x ∈ l, 0 ≤ x ∧ x ≤ 255) :
    Calls Try.prog 3 #[.slice A n c] w fun e w' => e = .returned (.bool true) ∧ Bw w w' := by
  have WF := hid wf
  clear wf
  by_cases hb : n ≤ 1048576
  · have t1 : decide (1048576 < (n : Int)) = false := decide_eq_false (by omega)
    have T1 := hid t1
    clear t1
    go_enter Try.func3, Try.ntmps3
    go_wp2_with fail
    refine (toBool (lawbig _ _ _ _) T1.out).mono ?_
    rintro e w1 ⟨rfl, rfl⟩
    go_wp2_with fail
    refine (DrawState A n c l _ r WF.out hb).mono ?_
    rintro e w1 ⟨x, s, rfl, hs, hO, b1⟩
    obtain ⟨m, hm⟩ : ∃ m, s.lv.length = m := ⟨_, rfl⟩
    have hms : s.ms.length = m := by rw [hs.cs.lm, hm]
    have hts : s.ts.length = m := by rw [hs.cs.lt, hm]
    have hm1 : 1 ≤ m ∧ m ≤ 48 := by
      have h1 := hs.ok
      simp only [staOk, isBal, Bool.and_eq_true] at h1
      have := meshOk_len h1.1.1
      have := hs.n
      omega
    have HOK := hid hs.ok
    have HLEN := hid (fun k => by have h := macS_len hs.ok k; rw [hm] at h; exact (show (macS s k).ro = s.ro ∧ (macS s k).lv.length = m ∧ (macS s k).ms.length = m ∧ (macS s k).ts.length = m ∧ (macS s k).bd.length = s.bd.length from ⟨(macS_same s k).1, h⟩))
    have HM := hid (show s.lv.length = m ∧ s.ms.length = m ∧ s.ts.length = m from ⟨hm, hms, hts⟩)
    obtain ⟨X0, y0, X1, y1, X2, y2, X3, y3, rfl, q1⟩ := StR_mE hO.r (HLEN.out 0)
    clear hs hm hms hts
    have b2 := Bw.box1 w1 (.cells #[.int .i64 s.ro, .slice X0 m y0, .slice X1 m y1, .slice X2 m y2, .slice X3 s.bd.length y3] 29)
    have g0 := box_cell (Bw.refl (w1.alloc (.cells #[.int .i64 s.ro, .slice X0 m y0, .slice X1 m y1, .slice X2 m y2, .slice X3 s.bd.length y3] 29))) 0
    have g1 := box_cell (Bw.refl (w1.alloc (.cells #[.int .i64 s.ro, .slice X0 m y0, .slice X1 m y1, .slice X2 m y2, .slice X3 s.bd.length y3] 29))) 1
    have g2 := box_cell (Bw.refl (w1.alloc (.cells #[.int .i64 s.ro, .slice X0 m y0, .slice X1 m y1, .slice X2 m y2, .slice X3 s.bd.length y3] 29))) 2
    have g3 := box_cell (Bw.refl (w1.alloc (.cells #[.int .i64 s.ro, .slice X0 m y0, .slice X1 m y1, .slice X2 m y2, .slice X3 s.bd.length y3] 29))) 3
    have g4 := box_cell (Bw.refl (w1.alloc (.cells #[.int .i64 s.ro, .slice X0 m y0, .slice X1 m y1, .slice X2 m y2, .slice X3 s.bd.length y3] 29))) 4
    simp only [List.getElem?_toArray, List.getElem?_cons_zero, List.getElem?_cons_succ] at g0 g1 g2 g3 g4
    have hB := b1.trans b2
    have hs1 : w.heap.size ≤ w1.heap.size := b1.size
    have hz1 : (w1.alloc (.cells #[.int .i64 s.ro, .slice X0 m y0, .slice X1 m y1, .slice X2 m y2, .slice X3 s.bd.length y3] 29)).heap.size = w1.heap.size + 1 := by simp
    have HZ1 := hid hz1
    replace hO := hO.to b2
    replace q1 := q1.to b2
    clear b1 b2 hz1
    have HMO := hid (show meshOk s.ro s.lv = true by have h1 := HOK.out; simp only [staOk, isBal, Bool.and_eq_true] at h1; exact h1.1.1)
    have HLV := hid (show ∀ i, i < m → 0 ≤ (gc s.lv i).l ∧ (gc s.lv i).l ≤ 4 from fun i hi => ((StG.of HOK.out).f.lv i (by rw [HM.out.1]; exact hi)).1)
    have HM1 := hid (show 1 ≤ m ∧ m ≤ 128 from ⟨hm1.1, by omega⟩)
    have HID := hid (show IdR (w1.alloc (.cells #[.int .i64 s.ro, .slice X0 m y0, .slice X1 m y1, .slice X2 m y2, .slice X3 s.bd.length y3] 29)) X0 m s.lv from by
      obtain ⟨_, _, _, _, _, _, _, _, e7, qr, _⟩ := hO.r
      simp only [Value.agg.injEq, Array.mk.injEq, List.cons.injEq, and_true, true_and, Value.slice.injEq] at e7
      obtain ⟨⟨rfl, _, rfl⟩, _⟩ := e7
      rw [HM.out.1] at qr
      exact qr)
    go_wp2_with fail
    generalize (w1.alloc (.cells #[.int .i64 s.ro, .slice X0 m y0, .slice X1 m y1, .slice X2 m y2, .slice X3 s.bd.length y3] 29)) = w2 at *
    refine (impl_EventsOf s.ro X0 m y0 s.lv _ HID.out HMO.out HM1.out.1 HM1.out.2).mono ?_
    rintro e w3 ⟨v, rfl, hE, b3⟩
    obtain ⟨k, hk⟩ : ∃ k, (evs s.lv 0 16).length = k := ⟨_, rfl⟩
    have hkk := evs_len s.lv 0 16
    rw [HM.out.1, hk] at hkk
    have hk2 : k ≤ 1000000 := by omega
    have hk3 : k ≤ 4096 := by omega
    rw [hk] at hE
    obtain ⟨AE, cE, rfl, _, re⟩ := hE.reads
    have hev : EvR w3 AE k (evs s.lv 0 16) := ⟨re⟩
    have HK2 := hid hk2
    have HK3 := hid hk3
    have HCO := hid (show costL s.lv (m - 1) = (k : Int) by
      have := evs_cost s.lv (fun i hi => HLV.out i (by rw [← HM.out.1]; exact hi))
      rw [HM.out.1, hk] at this
      exact this.symm)
    have HFST0 := hid (show 0 < k → (ge (evs s.lv 0 16) 0).q = 0 from fun h => evs_first s.lv (fun i hi => HLV.out i (by rw [← HM.out.1]; exact hi)) (by rw [hk]; exact h))
    have HEQ := hid (show runA s 0 16 = macS s 16 from runA_macS s 16)
    replace g0 := pw_cell_below b3.out g0
    replace g1 := pw_cell_below b3.out g1
    replace g2 := pw_cell_below b3.out g2
    replace g3 := pw_cell_below b3.out g3
    replace g4 := pw_cell_below b3.out g4
    replace hB := hB.trans b3
    replace hO := hO.to b3
    have HID3 := hid (HID.out.to b3)
    clear hE re hkk hk2 hk3 hk HID b3
    go_wp2_with fail
    refine (impl_RunEvents _ s 0 16 AE k cE _ hO.r hev HK3.out (by omega) HOK.out).mono ?_
    rintro e w4 ⟨v, rfl, hX, b4⟩
    rw [HEQ.out] at hX
    obtain ⟨Z0, z0, Z1, z1, Z2, z2, Z3, z3, rfl, qx⟩ := StR_mE hX.r (HLEN.out 16)
    have b5 := Bw.box1 w4 (.cells #[.int .i64 s.ro, .slice Z0 m z0, .slice Z1 m z1, .slice Z2 m z2, .slice Z3 s.bd.length z3] 29)
    have h0 := box_cell (Bw.refl (w4.alloc (.cells #[.int .i64 s.ro, .slice Z0 m z0, .slice Z1 m z1, .slice Z2 m z2, .slice Z3 s.bd.length z3] 29))) 0
    have h1 := box_cell (Bw.refl (w4.alloc (.cells #[.int .i64 s.ro, .slice Z0 m z0, .slice Z1 m z1, .slice Z2 m z2, .slice Z3 s.bd.length z3] 29))) 1
    have h2 := box_cell (Bw.refl (w4.alloc (.cells #[.int .i64 s.ro, .slice Z0 m z0, .slice Z1 m z1, .slice Z2 m z2, .slice Z3 s.bd.length z3] 29))) 2
    have h3 := box_cell (Bw.refl (w4.alloc (.cells #[.int .i64 s.ro, .slice Z0 m z0, .slice Z1 m z1, .slice Z2 m z2, .slice Z3 s.bd.length z3] 29))) 3
    have h4 := box_cell (Bw.refl (w4.alloc (.cells #[.int .i64 s.ro, .slice Z0 m z0, .slice Z1 m z1, .slice Z2 m z2, .slice Z3 s.bd.length z3] 29))) 4
    simp only [List.getElem?_toArray, List.getElem?_cons_zero, List.getElem?_cons_succ] at h0 h1 h2 h3 h4
    have bb := b4.trans b5
    replace g0 := pw_cell_below bb.out g0
    replace g1 := pw_cell_below bb.out g1
    replace g2 := pw_cell_below bb.out g2
    replace g3 := pw_cell_below bb.out g3
    replace g4 := pw_cell_below bb.out g4
    have HB6 := hid (hB.trans bb)
    have HO6 := hid (hO.to bb)
    have HE6 := hid (hev.to bb)
    have HX6 := hid (hX.to b5)
    have HID := hid (HID3.out.to bb)
    clear hB hO hev hX HID3 q1 qx b4 b5 bb
    have hkc := Nat.eq_zero_or_pos k
    have u0 : ((k : Int) == (k : Int)) = true := by simp
    rcases hkc with hk0 | hk0
    · have u1 : ((k : Int) == 0) = true := by simp; omega
      clear hk0
      go_upto_region 6 with fail
      generalize (w4.alloc (.cells #[.int .i64 s.ro, .slice Z0 m z0, .slice Z1 m z1, .slice Z2 m z2, .slice Z3 s.bd.length z3] 29)) = w6 at *
      generalize w4.heap.size = P5 at *
      have bD := Bw.drawn (a := w6) ⟨⟨1, rfl⟩⟩
      refine start_ (n := 30) (S := fun w' => w'.cell? ⟨w1.heap.size, 0, none⟩ = some (.int .i64 s.ro) ∧ w'.cell? ⟨w1.heap.size, 1, none⟩ = some (.slice X0 m y0) ∧ w'.cell? ⟨w1.heap.size, 2, none⟩ = some (.slice X1 m y1) ∧ w'.cell? ⟨w1.heap.size, 3, none⟩ = some (.slice X2 m y2) ∧ w'.cell? ⟨w1.heap.size, 4, none⟩ = some (.slice X3 s.bd.length y3) ∧ w'.cell? ⟨P5, 0, none⟩ = some (.int .i64 s.ro) ∧ w'.cell? ⟨P5, 1, none⟩ = some (.slice Z0 m z0) ∧ w'.cell? ⟨P5, 2, none⟩ = some (.slice Z1 m z1) ∧ w'.cell? ⟨P5, 3, none⟩ = some (.slice Z2 m z2) ∧ w'.cell? ⟨P5, 4, none⟩ = some (.slice Z3 s.bd.length z3)) (ds := [29]) #[false, false, false, false, false, false, false, false, false, false, false, false, false, false, false, false, false, false, false, false, false, false, false, false, false, false, false, false, false, false] (by kernel_rfl) rfl rfl ⟨g0, g1, g2, g3, g4, h0, h1, h2, h3, h4⟩ (fun hHeld => ?_)
      refine pure_ (i := 0) (N := (some 16)) (v := ?_) (a' := ?_) #[true, false, false, false, false, false, false, false, false, false, false, false, false, false, false, false, false, false, false, false, false, false, false, false, false, false, false, false, false, false] rfl rfl (by kernel_rfl) (fun _ _ _ h => h) (Or.inl ⟨by rfl, ?_⟩) ?_ ?_
      rotate_left
      · intro w'
        go_simp
        with_reducible rfl
      rotate_left
      · simp only [Act.put, List.setIfInBounds_toArray, List.set_cons_zero, List.set_cons_succ, i64_w, i32_w]
        rfl
      refine pure_ (i := 1) (N := (some 17)) (v := ?_) (a' := ?_) #[true, true, false, false, false, false, false, false, false, false, false, false, false, false, false, false, false, false, false, false, false, false, false, false, false, false, false, false, false, false] rfl rfl (by kernel_rfl) (fun _ _ _ h => h) (Or.inl ⟨by rfl, ?_⟩) ?_ ?_
      rotate_left
      · intro w'
        go_simp
        with_reducible rfl
      rotate_left
      · simp only [Act.put, List.setIfInBounds_toArray, List.set_cons_zero, List.set_cons_succ, i64_w, i32_w]
        rfl
      refine pure_ (i := 2) (N := (some 18)) (v := ?_) (a' := ?_) #[true, true, true, false, false, false, false, false, false, false, false, false, false, false, false, false, false, false, false, false, false, false, false, false, false, false, false, false, false, false] rfl rfl (by kernel_rfl) (fun _ _ _ h => h) (Or.inl ⟨by rfl, ?_⟩) ?_ ?_
      rotate_left
      · intro w'
        go_simp
        with_reducible rfl
      rotate_left
      · simp only [Act.put, List.setIfInBounds_toArray, List.set_cons_zero, List.set_cons_succ, i64_w, i32_w]
        rfl
      refine take_ (i := 3) (N := (some 19)) (v := ?_) (a' := ?_) #[true, true, true, true, false, false, false, false, false, false, false, false, false, false, false, false, false, false, false, false, false, false, false, false, false, false, false, false, false, false] rfl rfl (by kernel_rfl) (fun _ _ _ h => h) (Or.inl ⟨by rfl, ?_⟩) hHeld ?_ ?_
      rotate_left
      · rintro w' ⟨s0, s1, s2, s3, s4, s5, s6, s7, s8, s9⟩
        go_simp
        with_reducible rfl
      rotate_left
      · simp only [Act.put, List.setIfInBounds_toArray, List.set_cons_zero, List.set_cons_succ, i64_w, i32_w]
        rfl
      refine one_ (i := 4) (N := (some 20)) #[true, true, true, true, true, false, false, false, false, false, false, false, false, false, false, false, false, false, false, false, false, false, false, false, false, false, false, false, false, false] rfl rfl (by kernel_rfl) (by decide) (fun K hK => ?_)
      refine goes_ Try.func10 (by kernel_rfl) rfl #[.agg #[.int .i64 s.ro, .slice X0 m y0]] (by rfl) rfl rfl (by (try simp only [List.map_toArray, List.map_cons, List.map_nil]); first | done | rfl) ?_
      refine (spec_CostOf s.ro X0 m y0 s.lv _ (HID.out.to bD) HMO.out HLV.out HM1.out.2 HM1.out.1).mono ?_
      rintro e wa ⟨rfl, ba⟩
      refine ⟨_, rfl, ?_⟩
      rw [HCO.out]
      have bA := bD.trans ba
      refine hK.out _ _ ⟨pw_cell_below bA.out g0, pw_cell_below bA.out g1, pw_cell_below bA.out g2, pw_cell_below bA.out g3, pw_cell_below bA.out g4, pw_cell_below bA.out h0, pw_cell_below bA.out h1, pw_cell_below bA.out h2, pw_cell_below bA.out h3, pw_cell_below bA.out h4⟩ (fun hHeld => ?_)
      clear hK K
      refine norm_ (a' := ?_) ?_ ?_
      rotate_left
      · show Act.put _ (some 20) _ = _
        simp only [Act.put, List.setIfInBounds_toArray, List.set_cons_zero, List.set_cons_succ, i64_w, i32_w]
        rfl
      refine pure_ (i := 5) (N := (some 21)) (v := ?_) (a' := ?_) #[true, true, true, true, true, true, false, false, false, false, false, false, false, false, false, false, false, false, false, false, false, false, false, false, false, false, false, false, false, false] rfl rfl (by kernel_rfl) (fun _ _ _ h => h) (Or.inl ⟨by rfl, ?_⟩) ?_ ?_
      rotate_left
      · intro w'
        go_simp
        with_reducible rfl
      rotate_left
      · simp only [Act.put, List.setIfInBounds_toArray, List.set_cons_zero, List.set_cons_succ, i64_w, i32_w]
        rfl
      refine pure_ (i := 6) (N := (some 22)) (v := ?_) (a' := ?_) #[true, true, true, true, true, true, true, false, false, false, false, false, false, false, false, false, false, false, false, false, false, false, false, false, false, false, false, false, false, false] rfl rfl (by kernel_rfl) (fun _ _ _ h => h) (Or.inl ⟨by rfl, ?_⟩) ?_ ?_
      rotate_left
      · intro w'
        go_simp
        with_reducible rfl
      rotate_left
      · simp only [Act.put, List.setIfInBounds_toArray, List.set_cons_zero, List.set_cons_succ, i64_w, i32_w]
        rfl
      refine take_ (i := 7) (N := (some 23)) (v := ?_) (a' := ?_) #[true, true, true, true, true, true, true, true, false, false, false, false, false, false, false, false, false, false, false, false, false, false, false, false, false, false, false, false, false, false] rfl rfl (by kernel_rfl) (fun _ _ _ h => h) (Or.inl ⟨by rfl, ?_⟩) hHeld ?_ ?_
      rotate_left
      · rintro w' ⟨s0, s1, s2, s3, s4, s5, s6, s7, s8, s9⟩
        go_simp
        with_reducible rfl
      rotate_left
      · simp only [Act.put, List.setIfInBounds_toArray, List.set_cons_zero, List.set_cons_succ, i64_w, i32_w]
        rfl
      refine take_ (i := 8) (N := (some 24)) (v := ?_) (a' := ?_) #[true, true, true, true, true, true, true, true, true, false, false, false, false, false, false, false, false, false, false, false, false, false, false, false, false, false, false, false, false, false] rfl rfl (by kernel_rfl) (fun _ _ _ h => h) (Or.inl ⟨by rfl, ?_⟩) hHeld ?_ ?_
      rotate_left
      · rintro w' ⟨s0, s1, s2, s3, s4, s5, s6, s7, s8, s9⟩
        go_simp
        with_reducible rfl
      rotate_left
      · simp only [Act.put, List.setIfInBounds_toArray, List.set_cons_zero, List.set_cons_succ, i64_w, i32_w]
        rfl
      refine one_ (i := 9) (N := (some 25)) #[true, true, true, true, true, true, true, true, true, true, false, false, false, false, false, false, false, false, false, false, false, false, false, false, false, false, false, false, false, false] rfl rfl (by kernel_rfl) (by decide) (fun K hK => ?_)
      refine goes_ Try.func12 (by kernel_rfl) rfl #[.agg #[.int .i64 s.ro, .slice X0 m y0, .slice X1 m y1, .slice X2 m y2, .slice X3 s.bd.length y3]] (by rfl) rfl rfl (by (try simp only [List.map_toArray, List.map_cons, List.map_nil]); first | done | rfl) ?_
      refine (spec_MacroStep _ s _ (HO6.out.r.to bA) HOK.out).mono ?_
      rintro e wb ⟨v, rfl, hv, bb⟩
      refine ⟨_, rfl, ?_⟩
      have bB := bA.trans bb
      refine hK.out _ _ ⟨pw_cell_below bB.out g0, pw_cell_below bB.out g1, pw_cell_below bB.out g2, pw_cell_below bB.out g3, pw_cell_below bB.out g4, pw_cell_below bB.out h0, pw_cell_below bB.out h1, pw_cell_below bB.out h2, pw_cell_below bB.out h3, pw_cell_below bB.out h4⟩ (fun hHeld => ?_)
      clear hK K
      refine norm_ (a' := ?_) ?_ ?_
      rotate_left
      · show Act.put _ (some 25) _ = _
        simp only [Act.put, List.setIfInBounds_toArray, List.set_cons_zero, List.set_cons_succ, i64_w, i32_w]
        rfl
      refine one_ (i := 10) (N := (some 26)) #[true, true, true, true, true, true, true, true, true, true, true, false, false, false, false, false, false, false, false, false, false, false, false, false, false, false, false, false, false, false] rfl rfl (by kernel_rfl) (by decide) (fun K hK => ?_)
      refine goes_ Try.func11 (by kernel_rfl) rfl #[.agg #[.int .i64 s.ro, .slice Z0 m z0, .slice Z1 m z1, .slice Z2 m z2, .slice Z3 s.bd.length z3], v] (by rfl) rfl rfl (by (try simp only [List.map_toArray, List.map_cons, List.map_nil]); first | done | rfl) ?_
      refine (spec_SameState_yes _ _ (macS s 16) _ (HX6.out.r.to bB) hv.r).mono ?_
      rintro e wc ⟨rfl, bc⟩
      refine ⟨_, rfl, ?_⟩
      have bC := bB.trans bc
      refine hK.out _ _ ⟨pw_cell_below bC.out g0, pw_cell_below bC.out g1, pw_cell_below bC.out g2, pw_cell_below bC.out g3, pw_cell_below bC.out g4, pw_cell_below bC.out h0, pw_cell_below bC.out h1, pw_cell_below bC.out h2, pw_cell_below bC.out h3, pw_cell_below bC.out h4⟩ (fun hHeld => ?_)
      clear hK K
      refine norm_ (a' := ?_) ?_ ?_
      rotate_left
      · show Act.put _ (some 26) _ = _
        simp only [Act.put, List.setIfInBounds_toArray, List.set_cons_zero, List.set_cons_succ, i64_w, i32_w]
        rfl
      refine pure_ (i := 11) (N := (some 27)) (v := ?_) (a' := ?_) #[true, true, true, true, true, true, true, true, true, true, true, true, false, false, false, false, false, false, false, false, false, false, false, false, false, false, false, false, false, false] rfl rfl (by kernel_rfl) (fun _ _ _ h => h) (Or.inl ⟨by rfl, ?_⟩) ?_ ?_
      rotate_left
      · intro w'
        go_simp
        with_reducible rfl
      rotate_left
      · simp only [Act.put, List.setIfInBounds_toArray, List.set_cons_zero, List.set_cons_succ, i64_w, i32_w]
        rfl
      refine pure_ (i := 12) (N := (some 28)) (v := ?_) (a' := ?_) #[true, true, true, true, true, true, true, true, true, true, true, true, true, false, false, false, false, false, false, false, false, false, false, false, false, false, false, false, false, false] rfl rfl (by kernel_rfl) (fun _ _ _ h => h) (Or.inl ⟨by rfl, ?_⟩) ?_ ?_
      rotate_left
      · intro w'
        go_simp
        with_reducible rfl
      rotate_left
      · simp only [Act.put, List.setIfInBounds_toArray, List.set_cons_zero, List.set_cons_succ, i64_w, i32_w]
        rfl
      refine pure_ (i := 13) (N := (some 29)) (v := ?_) (a' := ?_) #[true, true, true, true, true, true, true, true, true, true, true, true, true, true, false, false, false, false, false, false, false, false, false, false, false, false, false, false, false, false] rfl rfl (by kernel_rfl) (fun _ _ _ h => h) (Or.inl ⟨by rfl, ?_⟩) ?_ ?_
      rotate_left
      · intro w'
        go_simp
        with_reducible rfl
      rotate_left
      · simp only [Act.put, List.setIfInBounds_toArray, List.set_cons_zero, List.set_cons_succ, i64_w, i32_w]
        rfl
      refine pure_ (i := 14) (N := (some 30)) (v := ?_) (a' := ?_) #[true, true, true, true, true, true, true, true, true, true, true, true, true, true, true, false, false, false, false, false, false, false, false, false, false, false, false, false, false, false] rfl rfl (by kernel_rfl) (fun _ _ _ h => h) (Or.inl ⟨by rfl, ?_⟩) ?_ ?_
      rotate_left
      · intro w'
        go_simp
        with_reducible rfl
      rotate_left
      · simp only [Act.put, List.setIfInBounds_toArray, List.set_cons_zero, List.set_cons_succ, i64_w, i32_w]
        rfl
      refine pure_ (i := 15) (N := (some 31)) (v := ?_) (a' := ?_) #[true, true, true, true, true, true, true, true, true, true, true, true, true, true, true, true, false, false, false, false, false, false, false, false, false, false, false, false, false, false] rfl rfl (by kernel_rfl) (fun _ _ _ h => h) (Or.inl ⟨by rfl, ?_⟩) ?_ ?_
      rotate_left
      · intro w'
        go_simp
        with_reducible rfl
      rotate_left
      · simp only [Act.put, List.setIfInBounds_toArray, List.set_cons_zero, List.set_cons_succ, i64_w, i32_w]
        rfl
      refine pure_ (i := 16) (N := (some 32)) (v := ?_) (a' := ?_) #[true, true, true, true, true, true, true, true, true, true, true, true, true, true, true, true, true, false, false, false, false, false, false, false, false, false, false, false, false, false] rfl rfl (by kernel_rfl) (fun _ _ _ h => h) (Or.inl ⟨by rfl, ?_⟩) ?_ ?_
      rotate_left
      · intro w'
        go_simp
        with_reducible rfl
      rotate_left
      · simp only [Act.put, List.setIfInBounds_toArray, List.set_cons_zero, List.set_cons_succ, i64_w, i32_w]
        rfl
      refine pure_ (i := 17) (N := (some 33)) (v := undef) (a' := ?_) #[true, true, true, true, true, true, true, true, true, true, true, true, true, true, true, true, true, true, false, false, false, false, false, false, false, false, false, false, false, false] rfl rfl (by kernel_rfl) (fun _ _ _ h => h) (Or.inr ⟨by rfl, rfl⟩) ?_ ?_
      rotate_left
      · simp only [Act.put, List.setIfInBounds_toArray, List.set_cons_zero, List.set_cons_succ, i64_w, i32_w]
        rfl
      refine pure_ (i := 18) (N := (some 34)) (v := undef) (a' := ?_) #[true, true, true, true, true, true, true, true, true, true, true, true, true, true, true, true, true, true, true, false, false, false, false, false, false, false, false, false, false, false] rfl rfl (by kernel_rfl) (fun _ _ _ h => h) (Or.inr ⟨by rfl, rfl⟩) ?_ ?_
      rotate_left
      · simp only [Act.put, List.setIfInBounds_toArray, List.set_cons_zero, List.set_cons_succ, i64_w, i32_w]
        rfl
      refine pure_ (i := 19) (N := (some 35)) (v := undef) (a' := ?_) #[true, true, true, true, true, true, true, true, true, true, true, true, true, true, true, true, true, true, true, true, false, false, false, false, false, false, false, false, false, false] rfl rfl (by kernel_rfl) (fun _ _ _ h => h) (Or.inr ⟨by rfl, rfl⟩) ?_ ?_
      rotate_left
      · simp only [Act.put, List.setIfInBounds_toArray, List.set_cons_zero, List.set_cons_succ, i64_w, i32_w]
        rfl
      have bE := bC
      refine pure_ (i := 20) (N := (some 36)) (v := ?_) (a' := ?_) #[true, true, true, true, true, true, true, true, true, true, true, true, true, true, true, true, true, true, true, true, true, false, false, false, false, false, false, false, false, false] rfl rfl (by kernel_rfl) (fun _ _ _ h => h) (Or.inl ⟨by rfl, ?_⟩) ?_ ?_
      rotate_left
      · intro w'
        go_simp
        with_reducible rfl
      rotate_left
      · simp only [Act.put, List.setIfInBounds_toArray, List.set_cons_zero, List.set_cons_succ, i64_w, i32_w]
        rfl
      refine pure_ (i := 21) (N := (some 37)) (v := ?_) (a' := ?_) #[true, true, true, true, true, true, true, true, true, true, true, true, true, true, true, true, true, true, true, true, true, true, false, false, false, false, false, false, false, false] rfl rfl (by kernel_rfl) (fun _ _ _ h => h) (Or.inl ⟨by rfl, ?_⟩) ?_ ?_
      rotate_left
      · intro w'
        go_simp
        with_reducible rfl
      rotate_left
      · simp only [Act.put, List.setIfInBounds_toArray, List.set_cons_zero, List.set_cons_succ, i64_w, i32_w]
        rfl
      refine pure_ (i := 22) (N := (some 38)) (v := ?_) (a' := ?_) #[true, true, true, true, true, true, true, true, true, true, true, true, true, true, true, true, true, true, true, true, true, true, true, false, false, false, false, false, false, false] rfl rfl (by kernel_rfl) (fun _ _ _ h => h) (Or.inl ⟨by rfl, ?_⟩) ?_ ?_
      rotate_left
      · intro w'
        go_simp
        with_reducible rfl
      rotate_left
      · simp only [Act.put, List.setIfInBounds_toArray, List.set_cons_zero, List.set_cons_succ, i64_w, i32_w]
        rfl
      refine pure_ (i := 23) (N := (some 39)) (v := ?_) (a' := ?_) #[true, true, true, true, true, true, true, true, true, true, true, true, true, true, true, true, true, true, true, true, true, true, true, true, false, false, false, false, false, false] rfl rfl (by kernel_rfl) (fun _ _ _ h => h) (Or.inl ⟨by rfl, ?_⟩) ?_ ?_
      rotate_left
      · intro w'
        go_simp
        with_reducible rfl
      rotate_left
      · simp only [Act.put, List.setIfInBounds_toArray, List.set_cons_zero, List.set_cons_succ, i64_w, i32_w]
        rfl
      refine pure_ (i := 24) (N := (some 40)) (v := ?_) (a' := ?_) #[true, true, true, true, true, true, true, true, true, true, true, true, true, true, true, true, true, true, true, true, true, true, true, true, true, false, false, false, false, false] rfl rfl (by kernel_rfl) (fun _ _ _ h => h) (Or.inl ⟨by rfl, ?_⟩) ?_ ?_
      rotate_left
      · intro w'
        go_simp
        with_reducible rfl
      rotate_left
      · simp only [Act.put, List.setIfInBounds_toArray, List.set_cons_zero, List.set_cons_succ, i64_w, i32_w]
        rfl
      refine pure_ (i := 25) (N := (some 41)) (v := ?_) (a' := ?_) #[true, true, true, true, true, true, true, true, true, true, true, true, true, true, true, true, true, true, true, true, true, true, true, true, true, true, false, false, false, false] rfl rfl (by kernel_rfl) (fun _ _ _ h => h) (Or.inl ⟨by rfl, ?_⟩) ?_ ?_
      rotate_left
      · intro w'
        go_simp
        with_reducible rfl
      rotate_left
      · simp only [Act.put, List.setIfInBounds_toArray, List.set_cons_zero, List.set_cons_succ, i64_w, i32_w]
        rfl
      refine one_ (i := 26) (N := (some 42)) #[true, true, true, true, true, true, true, true, true, true, true, true, true, true, true, true, true, true, true, true, true, true, true, true, true, true, true, false, false, false] rfl rfl (by kernel_rfl) (by decide) (fun K hK => ?_)
      refine goes_ Try.func13 (by kernel_rfl) rfl #[.slice AE k cE, .int .i64 (k : Int)] (by rfl) rfl rfl (by (try simp only [List.map_toArray, List.map_cons, List.map_nil]); first | done | rfl) ?_
      refine (NextTick_no AE k cE _ HK2.out).mono ?_
      rintro e we ⟨rfl, rfl⟩
      refine ⟨_, rfl, ?_⟩
      refine hK.out _ _ ⟨pw_cell_below bE.out g0, pw_cell_below bE.out g1, pw_cell_below bE.out g2, pw_cell_below bE.out g3, pw_cell_below bE.out g4, pw_cell_below bE.out h0, pw_cell_below bE.out h1, pw_cell_below bE.out h2, pw_cell_below bE.out h3, pw_cell_below bE.out h4⟩ (fun hHeld => ?_)
      clear hK K
      refine norm_ (a' := ?_) ?_ ?_
      rotate_left
      · show Act.put _ (some 42) _ = _
        simp only [Act.put, List.setIfInBounds_toArray, List.set_cons_zero, List.set_cons_succ, i64_w, i32_w]
        rfl
      refine pure_ (i := 27) (N := (some 43)) (v := ?_) (a' := ?_) #[true, true, true, true, true, true, true, true, true, true, true, true, true, true, true, true, true, true, true, true, true, true, true, true, true, true, true, true, false, false] rfl rfl (by kernel_rfl) (fun _ _ _ h => h) (Or.inl ⟨by rfl, ?_⟩) ?_ ?_
      rotate_left
      · intro w'
        go_simp
        with_reducible rfl
      rotate_left
      · simp only [Act.put, List.setIfInBounds_toArray, List.set_cons_zero, List.set_cons_succ, i64_w, i32_w]
        rfl
      refine pure_ (i := 28) (N := (some 44)) (v := ?_) (a' := ?_) #[true, true, true, true, true, true, true, true, true, true, true, true, true, true, true, true, true, true, true, true, true, true, true, true, true, true, true, true, true, false] rfl rfl (by kernel_rfl) (fun _ _ _ h => h) (Or.inl ⟨by rfl, ?_⟩) ?_ ?_
      rotate_left
      · intro w'
        go_simp
        with_reducible rfl
      rotate_left
      · simp only [Act.put, List.setIfInBounds_toArray, List.set_cons_zero, List.set_cons_succ, i64_w, i32_w]
        rfl
      clear hHeld
      refine last_ (i := 29) (N := (some 2)) #[true, true, true, true, true, true, true, true, true, true, true, true, true, true, true, true, true, true, true, true, true, true, true, true, true, true, true, true, true, true] rfl rfl (by kernel_rfl) (by decide) (fun K hK => ?_)
      refine value_ (w1 := ?_) (v := ?_) (by rfl) rfl ?_ ?_
      rotate_left 2
      · go_simp
        constructor
        · rfl
        · rfl
      refine hK.out _ _ ?_
      clear hK K
      refine norm_ (a' := ?_) ?_ ?_
      rotate_left
      · show Act.put _ (some 2) _ = _
        simp only [Act.put, List.setIfInBounds_toArray, List.set_cons_zero, List.set_cons_succ, i64_w, i32_w]
        rfl
      refine done_ (by kernel_rfl) ?_
      have hB := HB6.out.trans bE
      clear bD ba bA bb bB bc bC bE
      go_wp2
      go_ret
      exact ⟨rfl, hB⟩
    · have HPOS := hid hk0
      have HFST := hid (HFST0.out hk0)
      have u1 : ((k : Int) == 0) = false := by simp; omega
      clear hk0
      go_upto_region 6 with fail
      generalize (w4.alloc (.cells #[.int .i64 s.ro, .slice Z0 m z0, .slice Z1 m z1, .slice Z2 m z2, .slice Z3 s.bd.length z3] 29)) = w6 at *
      generalize w4.heap.size = P5 at *
      have bD := Bw.drawn (a := w6) ⟨⟨1, rfl⟩⟩
      refine start_ (n := 30) (S := fun w' => w'.cell? ⟨w1.heap.size, 0, none⟩ = some (.int .i64 s.ro) ∧ w'.cell? ⟨w1.heap.size, 1, none⟩ = some (.slice X0 m y0) ∧ w'.cell? ⟨w1.heap.size, 2, none⟩ = some (.slice X1 m y1) ∧ w'.cell? ⟨w1.heap.size, 3, none⟩ = some (.slice X2 m y2) ∧ w'.cell? ⟨w1.heap.size, 4, none⟩ = some (.slice X3 s.bd.length y3) ∧ w'.cell? ⟨P5, 0, none⟩ = some (.int .i64 s.ro) ∧ w'.cell? ⟨P5, 1, none⟩ = some (.slice Z0 m z0) ∧ w'.cell? ⟨P5, 2, none⟩ = some (.slice Z1 m z1) ∧ w'.cell? ⟨P5, 3, none⟩ = some (.slice Z2 m z2) ∧ w'.cell? ⟨P5, 4, none⟩ = some (.slice Z3 s.bd.length z3)) (ds := [29]) #[false, false, false, false, false, false, false, false, false, false, false, false, false, false, false, false, false, false, false, false, false, false, false, false, false, false, false, false, false, false] (by kernel_rfl) rfl rfl ⟨g0, g1, g2, g3, g4, h0, h1, h2, h3, h4⟩ (fun hHeld => ?_)
      refine pure_ (i := 0) (N := (some 16)) (v := ?_) (a' := ?_) #[true, false, false, false, false, false, false, false, false, false, false, false, false, false, false, false, false, false, false, false, false, false, false, false, false, false, false, false, false, false] rfl rfl (by kernel_rfl) (fun _ _ _ h => h) (Or.inl ⟨by rfl, ?_⟩) ?_ ?_
      rotate_left
      · intro w'
        go_simp
        with_reducible rfl
      rotate_left
      · simp only [Act.put, List.setIfInBounds_toArray, List.set_cons_zero, List.set_cons_succ, i64_w, i32_w]
        rfl
      refine pure_ (i := 1) (N := (some 17)) (v := ?_) (a' := ?_) #[true, true, false, false, false, false, false, false, false, false, false, false, false, false, false, false, false, false, false, false, false, false, false, false, false, false, false, false, false, false] rfl rfl (by kernel_rfl) (fun _ _ _ h => h) (Or.inl ⟨by rfl, ?_⟩) ?_ ?_
      rotate_left
      · intro w'
        go_simp
        with_reducible rfl
      rotate_left
      · simp only [Act.put, List.setIfInBounds_toArray, List.set_cons_zero, List.set_cons_succ, i64_w, i32_w]
        rfl
      refine pure_ (i := 2) (N := (some 18)) (v := ?_) (a' := ?_) #[true, true, true, false, false, false, false, false, false, false, false, false, false, false, false, false, false, false, false, false, false, false, false, false, false, false, false, false, false, false] rfl rfl (by kernel_rfl) (fun _ _ _ h => h) (Or.inl ⟨by rfl, ?_⟩) ?_ ?_
      rotate_left
      · intro w'
        go_simp
        with_reducible rfl
      rotate_left
      · simp only [Act.put, List.setIfInBounds_toArray, List.set_cons_zero, List.set_cons_succ, i64_w, i32_w]
        rfl
      refine take_ (i := 3) (N := (some 19)) (v := ?_) (a' := ?_) #[true, true, true, true, false, false, false, false, false, false, false, false, false, false, false, false, false, false, false, false, false, false, false, false, false, false, false, false, false, false] rfl rfl (by kernel_rfl) (fun _ _ _ h => h) (Or.inl ⟨by rfl, ?_⟩) hHeld ?_ ?_
      rotate_left
      · rintro w' ⟨s0, s1, s2, s3, s4, s5, s6, s7, s8, s9⟩
        go_simp
        with_reducible rfl
      rotate_left
      · simp only [Act.put, List.setIfInBounds_toArray, List.set_cons_zero, List.set_cons_succ, i64_w, i32_w]
        rfl
      refine one_ (i := 4) (N := (some 20)) #[true, true, true, true, true, false, false, false, false, false, false, false, false, false, false, false, false, false, false, false, false, false, false, false, false, false, false, false, false, false] rfl rfl (by kernel_rfl) (by decide) (fun K hK => ?_)
      refine goes_ Try.func10 (by kernel_rfl) rfl #[.agg #[.int .i64 s.ro, .slice X0 m y0]] (by rfl) rfl rfl (by (try simp only [List.map_toArray, List.map_cons, List.map_nil]); first | done | rfl) ?_
      refine (spec_CostOf s.ro X0 m y0 s.lv _ (HID.out.to bD) HMO.out HLV.out HM1.out.2 HM1.out.1).mono ?_
      rintro e wa ⟨rfl, ba⟩
      refine ⟨_, rfl, ?_⟩
      rw [HCO.out]
      have bA := bD.trans ba
      refine hK.out _ _ ⟨pw_cell_below bA.out g0, pw_cell_below bA.out g1, pw_cell_below bA.out g2, pw_cell_below bA.out g3, pw_cell_below bA.out g4, pw_cell_below bA.out h0, pw_cell_below bA.out h1, pw_cell_below bA.out h2, pw_cell_below bA.out h3, pw_cell_below bA.out h4⟩ (fun hHeld => ?_)
      clear hK K
      refine norm_ (a' := ?_) ?_ ?_
      rotate_left
      · show Act.put _ (some 20) _ = _
        simp only [Act.put, List.setIfInBounds_toArray, List.set_cons_zero, List.set_cons_succ, i64_w, i32_w]
        rfl
      refine pure_ (i := 5) (N := (some 21)) (v := ?_) (a' := ?_) #[true, true, true, true, true, true, false, false, false, false, false, false, false, false, false, false, false, false, false, false, false, false, false, false, false, false, false, false, false, false] rfl rfl (by kernel_rfl) (fun _ _ _ h => h) (Or.inl ⟨by rfl, ?_⟩) ?_ ?_
      rotate_left
      · intro w'
        go_simp
        with_reducible rfl
      rotate_left
      · simp only [Act.put, List.setIfInBounds_toArray, List.set_cons_zero, List.set_cons_succ, i64_w, i32_w]
        rfl
      refine pure_ (i := 6) (N := (some 22)) (v := ?_) (a' := ?_) #[true, true, true, true, true, true, true, false, false, false, false, false, false, false, false, false, false, false, false, false, false, false, false, false, false, false, false, false, false, false] rfl rfl (by kernel_rfl) (fun _ _ _ h => h) (Or.inl ⟨by rfl, ?_⟩) ?_ ?_
      rotate_left
      · intro w'
        go_simp
        with_reducible rfl
      rotate_left
      · simp only [Act.put, List.setIfInBounds_toArray, List.set_cons_zero, List.set_cons_succ, i64_w, i32_w]
        rfl
      refine take_ (i := 7) (N := (some 23)) (v := ?_) (a' := ?_) #[true, true, true, true, true, true, true, true, false, false, false, false, false, false, false, false, false, false, false, false, false, false, false, false, false, false, false, false, false, false] rfl rfl (by kernel_rfl) (fun _ _ _ h => h) (Or.inl ⟨by rfl, ?_⟩) hHeld ?_ ?_
      rotate_left
      · rintro w' ⟨s0, s1, s2, s3, s4, s5, s6, s7, s8, s9⟩
        go_simp
        with_reducible rfl
      rotate_left
      · simp only [Act.put, List.setIfInBounds_toArray, List.set_cons_zero, List.set_cons_succ, i64_w, i32_w]
        rfl
      refine take_ (i := 8) (N := (some 24)) (v := ?_) (a' := ?_) #[true, true, true, true, true, true, true, true, true, false, false, false, false, false, false, false, false, false, false, false, false, false, false, false, false, false, false, false, false, false] rfl rfl (by kernel_rfl) (fun _ _ _ h => h) (Or.inl ⟨by rfl, ?_⟩) hHeld ?_ ?_
      rotate_left
      · rintro w' ⟨s0, s1, s2, s3, s4, s5, s6, s7, s8, s9⟩
        go_simp
        with_reducible rfl
      rotate_left
      · simp only [Act.put, List.setIfInBounds_toArray, List.set_cons_zero, List.set_cons_succ, i64_w, i32_w]
        rfl
      refine one_ (i := 9) (N := (some 25)) #[true, true, true, true, true, true, true, true, true, true, false, false, false, false, false, false, false, false, false, false, false, false, false, false, false, false, false, false, false, false] rfl rfl (by kernel_rfl) (by decide) (fun K hK => ?_)
      refine goes_ Try.func12 (by kernel_rfl) rfl #[.agg #[.int .i64 s.ro, .slice X0 m y0, .slice X1 m y1, .slice X2 m y2, .slice X3 s.bd.length y3]] (by rfl) rfl rfl (by (try simp only [List.map_toArray, List.map_cons, List.map_nil]); first | done | rfl) ?_
      refine (spec_MacroStep _ s _ (HO6.out.r.to bA) HOK.out).mono ?_
      rintro e wb ⟨v, rfl, hv, bb⟩
      refine ⟨_, rfl, ?_⟩
      have bB := bA.trans bb
      refine hK.out _ _ ⟨pw_cell_below bB.out g0, pw_cell_below bB.out g1, pw_cell_below bB.out g2, pw_cell_below bB.out g3, pw_cell_below bB.out g4, pw_cell_below bB.out h0, pw_cell_below bB.out h1, pw_cell_below bB.out h2, pw_cell_below bB.out h3, pw_cell_below bB.out h4⟩ (fun hHeld => ?_)
      clear hK K
      refine norm_ (a' := ?_) ?_ ?_
      rotate_left
      · show Act.put _ (some 25) _ = _
        simp only [Act.put, List.setIfInBounds_toArray, List.set_cons_zero, List.set_cons_succ, i64_w, i32_w]
        rfl
      refine one_ (i := 10) (N := (some 26)) #[true, true, true, true, true, true, true, true, true, true, true, false, false, false, false, false, false, false, false, false, false, false, false, false, false, false, false, false, false, false] rfl rfl (by kernel_rfl) (by decide) (fun K hK => ?_)
      refine goes_ Try.func11 (by kernel_rfl) rfl #[.agg #[.int .i64 s.ro, .slice Z0 m z0, .slice Z1 m z1, .slice Z2 m z2, .slice Z3 s.bd.length z3], v] (by rfl) rfl rfl (by (try simp only [List.map_toArray, List.map_cons, List.map_nil]); first | done | rfl) ?_
      refine (spec_SameState_yes _ _ (macS s 16) _ (HX6.out.r.to bB) hv.r).mono ?_
      rintro e wc ⟨rfl, bc⟩
      refine ⟨_, rfl, ?_⟩
      have bC := bB.trans bc
      refine hK.out _ _ ⟨pw_cell_below bC.out g0, pw_cell_below bC.out g1, pw_cell_below bC.out g2, pw_cell_below bC.out g3, pw_cell_below bC.out g4, pw_cell_below bC.out h0, pw_cell_below bC.out h1, pw_cell_below bC.out h2, pw_cell_below bC.out h3, pw_cell_below bC.out h4⟩ (fun hHeld => ?_)
      clear hK K
      refine norm_ (a' := ?_) ?_ ?_
      rotate_left
      · show Act.put _ (some 26) _ = _
        simp only [Act.put, List.setIfInBounds_toArray, List.set_cons_zero, List.set_cons_succ, i64_w, i32_w]
        rfl
      refine pure_ (i := 11) (N := (some 27)) (v := ?_) (a' := ?_) #[true, true, true, true, true, true, true, true, true, true, true, true, false, false, false, false, false, false, false, false, false, false, false, false, false, false, false, false, false, false] rfl rfl (by kernel_rfl) (fun _ _ _ h => h) (Or.inl ⟨by rfl, ?_⟩) ?_ ?_
      rotate_left
      · intro w'
        go_simp
        with_reducible rfl
      rotate_left
      · simp only [Act.put, List.setIfInBounds_toArray, List.set_cons_zero, List.set_cons_succ, i64_w, i32_w]
        rfl
      refine pure_ (i := 12) (N := (some 28)) (v := ?_) (a' := ?_) #[true, true, true, true, true, true, true, true, true, true, true, true, true, false, false, false, false, false, false, false, false, false, false, false, false, false, false, false, false, false] rfl rfl (by kernel_rfl) (fun _ _ _ h => h) (Or.inl ⟨by rfl, ?_⟩) ?_ ?_
      rotate_left
      · intro w'
        go_simp
        with_reducible rfl
      rotate_left
      · simp only [Act.put, List.setIfInBounds_toArray, List.set_cons_zero, List.set_cons_succ, i64_w, i32_w]
        rfl
      refine pure_ (i := 13) (N := (some 29)) (v := ?_) (a' := ?_) #[true, true, true, true, true, true, true, true, true, true, true, true, true, true, false, false, false, false, false, false, false, false, false, false, false, false, false, false, false, false] rfl rfl (by kernel_rfl) (fun _ _ _ h => h) (Or.inl ⟨by rfl, ?_⟩) ?_ ?_
      rotate_left
      · intro w'
        go_simp
        with_reducible rfl
      rotate_left
      · simp only [Act.put, List.setIfInBounds_toArray, List.set_cons_zero, List.set_cons_succ, i64_w, i32_w]
        rfl
      refine pure_ (i := 14) (N := (some 30)) (v := ?_) (a' := ?_) #[true, true, true, true, true, true, true, true, true, true, true, true, true, true, true, false, false, false, false, false, false, false, false, false, false, false, false, false, false, false] rfl rfl (by kernel_rfl) (fun _ _ _ h => h) (Or.inl ⟨by rfl, ?_⟩) ?_ ?_
      rotate_left
      · intro w'
        go_simp
        with_reducible rfl
      rotate_left
      · simp only [Act.put, List.setIfInBounds_toArray, List.set_cons_zero, List.set_cons_succ, i64_w, i32_w]
        rfl
      refine pure_ (i := 15) (N := (some 31)) (v := ?_) (a' := ?_) #[true, true, true, true, true, true, true, true, true, true, true, true, true, true, true, true, false, false, false, false, false, false, false, false, false, false, false, false, false, false] rfl rfl (by kernel_rfl) (fun _ _ _ h => h) (Or.inl ⟨by rfl, ?_⟩) ?_ ?_
      rotate_left
      · intro w'
        go_simp
        with_reducible rfl
      rotate_left
      · simp only [Act.put, List.setIfInBounds_toArray, List.set_cons_zero, List.set_cons_succ, i64_w, i32_w]
        rfl
      refine pure_ (i := 16) (N := (some 32)) (v := ?_) (a' := ?_) #[true, true, true, true, true, true, true, true, true, true, true, true, true, true, true, true, true, false, false, false, false, false, false, false, false, false, false, false, false, false] rfl rfl (by kernel_rfl) (fun _ _ _ h => h) (Or.inl ⟨by rfl, ?_⟩) ?_ ?_
      rotate_left
      · intro w'
        go_simp
        with_reducible rfl
      rotate_left
      · simp only [Act.put, List.setIfInBounds_toArray, List.set_cons_zero, List.set_cons_succ, i64_w, i32_w]
        rfl
      refine pure_ (i := 17) (N := (some 33)) (v := ?_) (a' := ?_) #[true, true, true, true, true, true, true, true, true, true, true, true, true, true, true, true, true, true, false, false, false, false, false, false, false, false, false, false, false, false] rfl rfl (by kernel_rfl) (fun _ _ _ h => h) (Or.inl ⟨by rfl, ?_⟩) ?_ ?_
      rotate_left
      · intro w'
        go_simp
        with_reducible rfl
      rotate_left
      · simp only [Act.put, List.setIfInBounds_toArray, List.set_cons_zero, List.set_cons_succ, i64_w, i32_w]
        rfl
      refine one_ (i := 18) (N := (some 34)) #[true, true, true, true, true, true, true, true, true, true, true, true, true, true, true, true, true, true, true, false, false, false, false, false, false, false, false, false, false, false] rfl rfl (by kernel_rfl) (by decide) (fun K hK => ?_)
      refine goes_ Try.func13 (by kernel_rfl) rfl #[.slice AE k cE, .int .i64 0] (by rfl) rfl rfl (by (try simp only [List.map_toArray, List.map_cons, List.map_nil]); first | done | rfl) ?_
      refine (NextTick_at AE k cE _ _ (HE6.out.to bC) HPOS.out HK2.out).mono ?_
      rintro e wd ⟨rfl, rfl⟩
      refine ⟨_, rfl, ?_⟩
      rw [HFST.out]
      refine hK.out _ _ ⟨pw_cell_below bC.out g0, pw_cell_below bC.out g1, pw_cell_below bC.out g2, pw_cell_below bC.out g3, pw_cell_below bC.out g4, pw_cell_below bC.out h0, pw_cell_below bC.out h1, pw_cell_below bC.out h2, pw_cell_below bC.out h3, pw_cell_below bC.out h4⟩ (fun hHeld => ?_)
      clear hK K
      refine norm_ (a' := ?_) ?_ ?_
      rotate_left
      · show Act.put _ (some 34) _ = _
        simp only [Act.put, List.setIfInBounds_toArray, List.set_cons_zero, List.set_cons_succ, i64_w, i32_w]
        rfl
      refine pure_ (i := 19) (N := (some 35)) (v := ?_) (a' := ?_) #[true, true, true, true, true, true, true, true, true, true, true, true, true, true, true, true, true, true, true, true, false, false, false, false, false, false, false, false, false, false] rfl rfl (by kernel_rfl) (fun _ _ _ h => h) (Or.inl ⟨by rfl, ?_⟩) ?_ ?_
      rotate_left
      · intro w'
        go_simp
        with_reducible rfl
      rotate_left
      · simp only [Act.put, List.setIfInBounds_toArray, List.set_cons_zero, List.set_cons_succ, i64_w, i32_w]
        rfl
      have bE := bC
      refine pure_ (i := 20) (N := (some 36)) (v := ?_) (a' := ?_) #[true, true, true, true, true, true, true, true, true, true, true, true, true, true, true, true, true, true, true, true, true, false, false, false, false, false, false, false, false, false] rfl rfl (by kernel_rfl) (fun _ _ _ h => h) (Or.inl ⟨by rfl, ?_⟩) ?_ ?_
      rotate_left
      · intro w'
        go_simp
        with_reducible rfl
      rotate_left
      · simp only [Act.put, List.setIfInBounds_toArray, List.set_cons_zero, List.set_cons_succ, i64_w, i32_w]
        rfl
      refine pure_ (i := 21) (N := (some 37)) (v := ?_) (a' := ?_) #[true, true, true, true, true, true, true, true, true, true, true, true, true, true, true, true, true, true, true, true, true, true, false, false, false, false, false, false, false, false] rfl rfl (by kernel_rfl) (fun _ _ _ h => h) (Or.inl ⟨by rfl, ?_⟩) ?_ ?_
      rotate_left
      · intro w'
        go_simp
        with_reducible rfl
      rotate_left
      · simp only [Act.put, List.setIfInBounds_toArray, List.set_cons_zero, List.set_cons_succ, i64_w, i32_w]
        rfl
      refine pure_ (i := 22) (N := (some 38)) (v := ?_) (a' := ?_) #[true, true, true, true, true, true, true, true, true, true, true, true, true, true, true, true, true, true, true, true, true, true, true, false, false, false, false, false, false, false] rfl rfl (by kernel_rfl) (fun _ _ _ h => h) (Or.inl ⟨by rfl, ?_⟩) ?_ ?_
      rotate_left
      · intro w'
        go_simp
        with_reducible rfl
      rotate_left
      · simp only [Act.put, List.setIfInBounds_toArray, List.set_cons_zero, List.set_cons_succ, i64_w, i32_w]
        rfl
      refine pure_ (i := 23) (N := (some 39)) (v := ?_) (a' := ?_) #[true, true, true, true, true, true, true, true, true, true, true, true, true, true, true, true, true, true, true, true, true, true, true, true, false, false, false, false, false, false] rfl rfl (by kernel_rfl) (fun _ _ _ h => h) (Or.inl ⟨by rfl, ?_⟩) ?_ ?_
      rotate_left
      · intro w'
        go_simp
        with_reducible rfl
      rotate_left
      · simp only [Act.put, List.setIfInBounds_toArray, List.set_cons_zero, List.set_cons_succ, i64_w, i32_w]
        rfl
      refine pure_ (i := 24) (N := (some 40)) (v := ?_) (a' := ?_) #[true, true, true, true, true, true, true, true, true, true, true, true, true, true, true, true, true, true, true, true, true, true, true, true, true, false, false, false, false, false] rfl rfl (by kernel_rfl) (fun _ _ _ h => h) (Or.inl ⟨by rfl, ?_⟩) ?_ ?_
      rotate_left
      · intro w'
        go_simp
        with_reducible rfl
      rotate_left
      · simp only [Act.put, List.setIfInBounds_toArray, List.set_cons_zero, List.set_cons_succ, i64_w, i32_w]
        rfl
      refine pure_ (i := 25) (N := (some 41)) (v := ?_) (a' := ?_) #[true, true, true, true, true, true, true, true, true, true, true, true, true, true, true, true, true, true, true, true, true, true, true, true, true, true, false, false, false, false] rfl rfl (by kernel_rfl) (fun _ _ _ h => h) (Or.inl ⟨by rfl, ?_⟩) ?_ ?_
      rotate_left
      · intro w'
        go_simp
        with_reducible rfl
      rotate_left
      · simp only [Act.put, List.setIfInBounds_toArray, List.set_cons_zero, List.set_cons_succ, i64_w, i32_w]
        rfl
      refine one_ (i := 26) (N := (some 42)) #[true, true, true, true, true, true, true, true, true, true, true, true, true, true, true, true, true, true, true, true, true, true, true, true, true, true, true, false, false, false] rfl rfl (by kernel_rfl) (by decide) (fun K hK => ?_)
      refine goes_ Try.func13 (by kernel_rfl) rfl #[.slice AE k cE, .int .i64 (k : Int)] (by rfl) rfl rfl (by (try simp only [List.map_toArray, List.map_cons, List.map_nil]); first | done | rfl) ?_
      refine (NextTick_no AE k cE _ HK2.out).mono ?_
      rintro e we ⟨rfl, rfl⟩
      refine ⟨_, rfl, ?_⟩
      refine hK.out _ _ ⟨pw_cell_below bE.out g0, pw_cell_below bE.out g1, pw_cell_below bE.out g2, pw_cell_below bE.out g3, pw_cell_below bE.out g4, pw_cell_below bE.out h0, pw_cell_below bE.out h1, pw_cell_below bE.out h2, pw_cell_below bE.out h3, pw_cell_below bE.out h4⟩ (fun hHeld => ?_)
      clear hK K
      refine norm_ (a' := ?_) ?_ ?_
      rotate_left
      · show Act.put _ (some 42) _ = _
        simp only [Act.put, List.setIfInBounds_toArray, List.set_cons_zero, List.set_cons_succ, i64_w, i32_w]
        rfl
      refine pure_ (i := 27) (N := (some 43)) (v := ?_) (a' := ?_) #[true, true, true, true, true, true, true, true, true, true, true, true, true, true, true, true, true, true, true, true, true, true, true, true, true, true, true, true, false, false] rfl rfl (by kernel_rfl) (fun _ _ _ h => h) (Or.inl ⟨by rfl, ?_⟩) ?_ ?_
      rotate_left
      · intro w'
        go_simp
        with_reducible rfl
      rotate_left
      · simp only [Act.put, List.setIfInBounds_toArray, List.set_cons_zero, List.set_cons_succ, i64_w, i32_w]
        rfl
      refine pure_ (i := 28) (N := (some 44)) (v := ?_) (a' := ?_) #[true, true, true, true, true, true, true, true, true, true, true, true, true, true, true, true, true, true, true, true, true, true, true, true, true, true, true, true, true, false] rfl rfl (by kernel_rfl) (fun _ _ _ h => h) (Or.inl ⟨by rfl, ?_⟩) ?_ ?_
      rotate_left
      · intro w'
        go_simp
        with_reducible rfl
      rotate_left
      · simp only [Act.put, List.setIfInBounds_toArray, List.set_cons_zero, List.set_cons_succ, i64_w, i32_w]
        rfl
      clear hHeld
      refine last_ (i := 29) (N := (some 2)) #[true, true, true, true, true, true, true, true, true, true, true, true, true, true, true, true, true, true, true, true, true, true, true, true, true, true, true, true, true, true] rfl rfl (by kernel_rfl) (by decide) (fun K hK => ?_)
      refine value_ (w1 := ?_) (v := ?_) (by rfl) rfl ?_ ?_
      rotate_left 2
      · go_simp
        constructor
        · rfl
        · rfl
      refine hK.out _ _ ?_
      clear hK K
      refine norm_ (a' := ?_) ?_ ?_
      rotate_left
      · show Act.put _ (some 2) _ = _
        simp only [Act.put, List.setIfInBounds_toArray, List.set_cons_zero, List.set_cons_succ, i64_w, i32_w]
        rfl
      refine done_ (by kernel_rfl) ?_
      have hB := HB6.out.trans bE
      clear bD ba bA bb bB bc bC bE
      go_wp2
      go_ret
      exact ⟨rfl, hB⟩
  · have t1 : decide (1048576 < (n : Int)) = true := decide_eq_true (by omega)
    have T1 := hid t1
    clear t1
    go_enter Try.func3, Try.ntmps3
    go_wp2_with fail
    refine (toBool (lawbig _ _ _ _) T1.out).mono ?_
    rintro e w1 ⟨rfl, rfl⟩
    go_wp2
    go_ret
    exact ⟨rfl, Bw.refl _⟩
end Go.Proofs.Ytkendhkaheoinaa.U
