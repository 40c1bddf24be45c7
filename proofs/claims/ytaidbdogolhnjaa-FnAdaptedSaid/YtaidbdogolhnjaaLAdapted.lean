
/- The law FnAdapted returns true at all codes. -/
import Derived.Test.YtaidbdogolhnjaaG26
import Derived.Test.YtaidbdogolhnjaaG13
import Derived.Test.YtaidbdogolhnjaaG10
import Derived.Test.YtaidbdogolhnjaaG8
set_option linter.unusedVariables false
set_option linter.unusedSimpArgs false
namespace Go.Proofs.Ytaidbdogolhnjaa.U
open Go.RowKit Go.Lib Go.Proofs.YtaidbdogolhnjaaW.PrintWords

open Go.Proofs.YtaidbdogolhnjaaW.PrintLast Go.Proofs.YtaidbdogolhnjaaW.PrintMore
theorem spec_StateOkR (x : Value) (s : Sta) (w : World) (hx : StR w x s) (h : staOk s.ro s.lv s.ms s.ts s.bd = true) : Calls Try.prog 13 #[x] w fun e w' => e = .returned (.bool true) ∧ Bw w w' := by
  obtain ⟨A0, c0, A1, c1, A2, c2, A3, c3, rfl, r0, r1, r2, r3⟩ := hx
  rw [← h]
  exact spec_StateOk s.ro A0 _ c0 s.lv A1 _ c1 s.ms A2 _ c2 s.ts A3 _ c3 s.bd w r0 r1 r2 r3
theorem StR_bed {w : World} {v0 v1 v2 v3 : Value} {Z : Option Addr} {n z : Nat} {s : Sta} (h : StR w (.agg #[v0, v1, v2, v3, .slice Z n z]) s) : RI w Z n s.bd := by
  obtain ⟨A0, c0, A1, c1, A2, c2, A3, c3, e, r0, r1, r2, r3⟩ := h
  simp only [Value.agg.injEq, Array.mk.injEq, List.cons.injEq, and_true, Value.slice.injEq] at e
  obtain ⟨_, _, _, _, rfl, rfl, rfl⟩ := e
  exact r3
def TY5 : Bool × List (List Nat × List Nat) := (true, [([], []), ([], []), ([1], [1]), ([2], [2]), ([], []), ([4], [4]), ([5], [5]), ([0, 3, 6], [0, 3, 6]), ([], []), ([8, 7, 7, 0, 1, 2, 3, 4, 5, 6, 7, 8], [7, 8])])
def BY5 : List Nat := [0, 0, 2, 6, 0, 16, 48, 127, 0, 511]
theorem tabY5 : rtab .any (opsOf Try.f4 5) = TY5 := by kernel_rfl
theorem bitsY5 : waitsOk TY5.2 BY5 = true := by kernel_rfl
def TY7 : Bool × List (List Nat × List Nat) := (true, [([], []), ([0], [0]), ([1, 1], [1]), ([2], [2]), ([3, 2, 2], [2, 3]), ([2], [2]), ([5, 4, 2], [2, 5]), ([4, 6, 2], [2, 4, 6]), ([2, 7], [2, 7]), ([8, 6], [8]), ([9], [9]), ([10, 9, 9], [9, 10]), ([9], [9]), ([12, 11, 9], [9, 12]), ([11, 13, 9], [9, 11, 13]), ([9, 14], [9, 14]), ([15, 13], [15]), ([16], [16]), ([17, 16, 16], [16, 17]), ([16], [16]), ([19, 18, 16], [16, 19]), ([18, 20, 16], [16, 18, 20]), ([16, 21], [16, 21]), ([22, 20], [22]), ([23], [23]), ([24, 23, 23], [23, 24]), ([23], [23]), ([26, 25, 23], [23, 26]), ([25, 27, 23], [23, 25, 27]), ([23, 28], [23, 28]), ([29, 27], [29]), ([30], [30]), ([30], [30]), ([31, 32, 30, 30], [30, 31, 32]), ([30, 33], [30, 33]), ([34, 33], [34]), ([35], [35]), ([36, 35], [35, 36]), ([35], [35]), ([38, 35], [35, 38]), ([37, 39, 35, 35], [35, 37, 39]), ([35, 40], [35, 40]), ([41, 40, 0, 1, 2, 3, 4, 5, 6, 7, 8, 9, 10, 11, 12, 13, 14, 15, 16, 17, 18, 19, 20, 21, 22, 23, 24, 25, 26, 27, 28, 29, 30, 31, 32, 33, 34, 35, 36, 37, 38, 39, 40, 41], [41])])
def BY7 : List Nat := [0, 1, 3, 7, 15, 7, 63, 127, 255, 511, 1023, 2047, 1023, 8191, 16383, 32767, 65535, 131071, 262143, 131071, 1048575, 2097151, 4194303, 8388607, 16777215, 33554431, 16777215, 134217727, 268435455, 536870911, 1073741823, 2147483647, 2147483647, 8589934591, 17179869183, 34359738367, 68719476735, 137438953471, 68719476735, 343597383679, 1099511627775, 2199023255551, 4398046511103]
theorem tabY7 : rtab .any (opsOf Try.f4 7) = TY7 := by kernel_rfl
theorem bitsY7 : waitsOk TY7.2 BY7 = true := by kernel_rfl
theorem StR_mAdapted {w : World} {x : Value} {s z : Sta} {m : Nat} (h : StR w x z) (e : z.ro = s.ro ∧ z.lv.length = m ∧ z.ms.length = m ∧ z.ts.length = m ∧ z.bd.length = s.bd.length) :
    ∃ (A0 : Option Addr) (c0 : Nat) (A1 : Option Addr) (c1 : Nat) (A2 : Option Addr) (c2 : Nat) (A3 : Option Addr) (c3 : Nat), x = .agg #[.int .i64 s.ro, .slice A0 m c0, .slice A1 m c1, .slice A2 m c2, .slice A3 s.bd.length c3] ∧ RI w A1 m z.ms := by
  obtain ⟨A0, c0, A1, c1, A2, c2, A3, c3, rfl, r0, r1, r2, r3⟩ := h
  obtain ⟨e0, e1, e2, e3, e4⟩ := e
  rw [e0, e1, e2, e3, e4]
  rw [e2] at r1
  exact ⟨_, _, _, _, _, _, _, _, rfl, r1⟩
set_option maxHeartbeats 8000000 in
set_option maxRecDepth 100000 in
theorem law_Adapted (A : Option Addr) (n c : Nat) (l : List Int) (w : World) (r : ReadsInt w .u8 A n l) (wf : ∀ x ∈ l, 0 ≤ x ∧ x ≤ 255) :
    Calls Try.prog 4 #[.slice A n c] w fun e w' => e = .returned (.bool true) ∧ Bw w w' := by
  have WF := hid wf
  clear wf
  by_cases hb : n ≤ 1048576
  · have t1 : decide (1048576 < (n : Int)) = false := decide_eq_false (by omega)
    have T1 := hid t1
    clear t1
    go_enter Try.func4, Try.ntmps4
    go_wp2_with fail
    refine (toBool (lawbig _ _ _ _) T1.out).mono ?_
    rintro e w1 ⟨rfl, rfl⟩
    go_wp2_with fail
    refine (DrawState A n c l _ r WF.out hb).mono ?_
    rintro e w1 ⟨x, s, rfl, hs, hO, b1⟩
    obtain ⟨m, hm⟩ : ∃ m, s.lv.length = m := ⟨_, rfl⟩
    have hms : s.ms.length = m := by rw [hs.cs.lm, hm]
    have hts : s.ts.length = m := by rw [hs.cs.lt, hm]
    have hm1 : 1 ≤ m ∧ m ≤ 48 := by
      have h1 := hs.ok
      simp only [staOk, isBal, Bool.and_eq_true] at h1
      have := meshOk_len h1.1.1
      have := hs.n
      omega
    have HOK := hid hs.ok
    have HLEN := hid (show s.ro = s.ro ∧ s.lv.length = m ∧ s.ms.length = m ∧ s.ts.length = m ∧ s.bd.length = s.bd.length from ⟨rfl, hm, hms, hts, rfl⟩)
    have HM := hid (show s.lv.length = m ∧ s.ms.length = m ∧ s.ts.length = m from ⟨hm, hms, hts⟩)
    obtain ⟨X0, y0, X1, y1, X2, y2, X3, y3, rfl, q1⟩ := StR_mAdapted hO.r HLEN.out
    clear hs hm hms hts
    have b2 := Bw.box1 w1 (.cells #[.int .i64 s.ro, .slice X0 m y0, .slice X1 m y1, .slice X2 m y2, .slice X3 s.bd.length y3] 29)
    have g0 := box_cell (Bw.refl (w1.alloc (.cells #[.int .i64 s.ro, .slice X0 m y0, .slice X1 m y1, .slice X2 m y2, .slice X3 s.bd.length y3] 29))) 0
    have g1 := box_cell (Bw.refl (w1.alloc (.cells #[.int .i64 s.ro, .slice X0 m y0, .slice X1 m y1, .slice X2 m y2, .slice X3 s.bd.length y3] 29))) 1
    have g2 := box_cell (Bw.refl (w1.alloc (.cells #[.int .i64 s.ro, .slice X0 m y0, .slice X1 m y1, .slice X2 m y2, .slice X3 s.bd.length y3] 29))) 2
    have g3 := box_cell (Bw.refl (w1.alloc (.cells #[.int .i64 s.ro, .slice X0 m y0, .slice X1 m y1, .slice X2 m y2, .slice X3 s.bd.length y3] 29))) 3
    have g4 := box_cell (Bw.refl (w1.alloc (.cells #[.int .i64 s.ro, .slice X0 m y0, .slice X1 m y1, .slice X2 m y2, .slice X3 s.bd.length y3] 29))) 4
    simp only [List.getElem?_toArray, List.getElem?_cons_zero, List.getElem?_cons_succ] at g0 g1 g2 g3 g4
    have hB := b1.trans b2
    have hs1 : w.heap.size ≤ w1.heap.size := b1.size
    have hz1 : (w1.alloc (.cells #[.int .i64 s.ro, .slice X0 m y0, .slice X1 m y1, .slice X2 m y2, .slice X3 s.bd.length y3] 29)).heap.size = w1.heap.size + 1 := by simp
    have HZ1 := hid hz1
    replace hO := hO.to b2
    clear b1 b2 hz1
    go_wp2_with fail
    generalize (w1.alloc (.cells #[.int .i64 s.ro, .slice X0 m y0, .slice X1 m y1, .slice X2 m y2, .slice X3 s.bd.length y3] 29)) = w2 at *
    refine (DrawPlaces A n c l _ (r.below hB.out) WF.out hb).mono ?_
    rintro e w3 ⟨P, m2, pc, ps, rfl, hp, ⟨rfl, hpb⟩, b3⟩
    have hpl := hp.len
    have hp0 : ∀ i : Nat, i < 12 → 0 ≤ rd ps (i : Int) ∧ rd ps (i : Int) < 10000 := fun i hi => hpb _ (by
      rw [rd_nat, List.getD_eq_getElem?_getD, List.getElem?_eq_getElem (by omega)]
      exact List.getElem_mem (by omega))
    have hq0 : 0 ≤ rd ps 0 ∧ rd ps 0 < 10000 := hp0 0 (by omega)
    have hq1 : 0 ≤ rd ps 1 ∧ rd ps 1 < 10000 := hp0 1 (by omega)
    obtain ⟨ap, rfl, hcp⟩ := hp.ri.nat 0 (by omega)
    obtain ⟨_, ea, hcp1⟩ := hp.ri.nat 1 (by omega)
    obtain rfl := Option.some.inj ea
    have hcp0 : w3.cell? ap = some (.int .i64 (rd ps 0)) := hcp
    replace hcp1 : w3.cell? ⟨ap.block, ap.off + 1, none⟩ = some (.int .i64 (rd ps 1)) := by rw [add_pos _ _ (by omega)] at hcp1; exact hcp1
    clear hcp hp0 hpb hp ea hpl
    obtain ⟨p0, hp0⟩ : ∃ p, rd ps 0 = p := ⟨_, rfl⟩
    obtain ⟨p1, hp1⟩ : ∃ p, rd ps 1 = p := ⟨_, rfl⟩
    rw [hp0] at hcp0 hq0
    rw [hp1] at hcp1 hq1
    clear hp0 hp1
    replace g0 := pw_cell_below b3.out g0
    replace g1 := pw_cell_below b3.out g1
    replace g2 := pw_cell_below b3.out g2
    replace g3 := pw_cell_below b3.out g3
    replace g4 := pw_cell_below b3.out g4
    replace hB := hB.trans b3
    replace hO := hO.to b3
    clear b3 q1
    obtain ⟨RV, hRV⟩ : ∃ r, adS s p0 p1 = r := ⟨_, rfl⟩
    have hok := adS_ok (hi := p0) (lo := p1) HOK.out
    rw [hRV] at hok
    have HRV := hid hRV
    have HXOK := hid hok.1
    have HTK := hid hok.2
    obtain ⟨N, hN⟩ : ∃ N, RV.lv.length = N := ⟨_, rfl⟩
    have hmt := hasMT hok.1
    have HXL := hid (show RV.ro = s.ro ∧ RV.lv.length = N ∧ RV.ms.length = N ∧ RV.ts.length = N ∧ RV.bd.length = s.bd.length from ⟨hok.2.ro, hN, hmt.1.trans hN, hmt.2.1.trans hN, by rw [hok.2.bd]⟩)
    have hsh := shares_ok HOK.out hok.1 hok.2
    obtain ⟨M, hM⟩ : ∃ M, s.ms.sum = M := ⟨_, rfl⟩
    obtain ⟨T, hT⟩ : ∃ T, s.ts.sum = T := ⟨_, rfl⟩
    obtain ⟨ga, hga⟩ : ∃ q, gshare RV = q := ⟨_, rfl⟩
    obtain ⟨gb, hgb⟩ : ∃ q, gshare s = q := ⟨_, rfl⟩
    obtain ⟨la, hla⟩ : ∃ q, lshare RV = q := ⟨_, rfl⟩
    obtain ⟨lb, hlb⟩ : ∃ q, lshare s = q := ⟨_, rfl⟩
    rw [hga, hgb, hla, hlb] at hsh
    have HTM := hid (show RV.ms.sum = M ∧ s.ms.sum = M from ⟨hok.2.m.trans hM, hM⟩)
    have HTT := hid (show RV.ts.sum = T ∧ s.ts.sum = T from ⟨hok.2.t.trans hT, hT⟩)
    have HGS := hid (And.intro hga hgb)
    have HLS := hid (And.intro hla hlb)
    have HSH := hid hsh
    have HO := hid hO
    have HB := hid hB
    have HQ := hid (And.intro hq0 hq1)
    clear hRV hok hN hmt hsh hM hT hga hgb hla hlb hO hB hq0 hq1
    go_upto_region 5 with fail
    go_cut [5] from 13 to 20 (fun v5 wx => ∃ (G lo hi : Nat) (Z0 : Option Addr) (z0 : Nat) (Z1 : Option Addr) (z1 : Nat) (Z2 : Option Addr) (z2 : Nat) (Z3 : Option Addr) (z3 : Nat), v5 = .pointer (some ⟨G, 0, none⟩) ∧ wx.heap[G]? = some (.cells #[.int .i64 s.ro, .slice Z0 N z0, .slice Z1 N z1, .slice Z2 N z2, .slice Z3 s.bd.length z3] 29 (0, 0)) ∧ StO wx lo hi (.agg #[.int .i64 s.ro, .slice Z0 N z0, .slice Z1 N z1, .slice Z2 N z2, .slice Z3 s.bd.length z3]) RV ∧ Bw w3 wx)
    case first =>
      have bD := Bw.drawn (a := w3) ⟨⟨1, rfl⟩⟩
      refine start_ (n := 10) (S := fun w' => w'.cell? ⟨w1.heap.size, 0, none⟩ = some (.int .i64 s.ro) ∧ w'.cell? ⟨w1.heap.size, 1, none⟩ = some (.slice X0 m y0) ∧ w'.cell? ⟨w1.heap.size, 2, none⟩ = some (.slice X1 m y1) ∧ w'.cell? ⟨w1.heap.size, 3, none⟩ = some (.slice X2 m y2) ∧ w'.cell? ⟨w1.heap.size, 4, none⟩ = some (.slice X3 s.bd.length y3) ∧ w'.cell? ap = some (.int .i64 p0) ∧ w'.cell? ⟨ap.block, ap.off + 1, none⟩ = some (.int .i64 p1)) (ds := [9]) #[false, false, false, false, false, false, false, false, false, false] (by kernel_rfl) rfl rfl ⟨g0, g1, g2, g3, g4, hcp0, hcp1⟩ (fun hHeld => ?_)
      refine with_tabW tabY5 bitsY5 (fun HT_ HW_ => ?_)
      refine take_ (i := 0) (N := (some 13)) (v := ?_) (a' := ?_) #[true, false, false, false, false, false, false, false, false, false] rfl rfl (take_ofW HT_.out HW_.out (by kernel_rfl)) (fun _ _ _ h => h) (Or.inl ⟨by rfl, ?_⟩) hHeld ?_ ?_
      rotate_left
      · rintro w' ⟨s0, s1, s2, s3, s4, s5, s6⟩
        go_simp
        with_reducible rfl
      rotate_left
      · simp only [Act.put, List.setIfInBounds_toArray, List.set_cons_zero, List.set_cons_succ, i64_w, i32_w]
        rfl
      refine pure_ (i := 1) (N := (some 14)) (v := ?_) (a' := ?_) #[true, true, false, false, false, false, false, false, false, false] rfl rfl (any_of HT_.out (by kernel_rfl)) (fun _ _ _ h => h) (Or.inl ⟨by rfl, ?_⟩) ?_ ?_
      rotate_left
      · intro w'
        go_simp
        with_reducible rfl
      rotate_left
      · simp only [Act.put, List.setIfInBounds_toArray, List.set_cons_zero, List.set_cons_succ, i64_w, i32_w]
        rfl
      refine pure_ (i := 2) (N := (some 15)) (v := ?_) (a' := ?_) #[true, true, true, false, false, false, false, false, false, false] rfl rfl (any_of HT_.out (by kernel_rfl)) (fun _ _ _ h => h) (Or.inl ⟨by rfl, ?_⟩) ?_ ?_
      rotate_left
      · intro w'
        go_simp
        with_reducible rfl
      rotate_left
      · simp only [Act.put, List.setIfInBounds_toArray, List.set_cons_zero, List.set_cons_succ, i64_w, i32_w]
        rfl
      refine take_ (i := 3) (N := (some 16)) (v := ?_) (a' := ?_) #[true, true, true, true, false, false, false, false, false, false] rfl rfl (take_ofW HT_.out HW_.out (by kernel_rfl)) (fun _ _ _ h => h) (Or.inl ⟨by rfl, ?_⟩) hHeld ?_ ?_
      rotate_left
      · rintro w' ⟨s0, s1, s2, s3, s4, s5, s6⟩
        go_simp
        with_reducible rfl
      rotate_left
      · simp only [Act.put, List.setIfInBounds_toArray, List.set_cons_zero, List.set_cons_succ, i64_w, i32_w]
        rfl
      refine pure_ (i := 4) (N := (some 17)) (v := ?_) (a' := ?_) #[true, true, true, true, true, false, false, false, false, false] rfl rfl (any_of HT_.out (by kernel_rfl)) (fun _ _ _ h => h) (Or.inl ⟨by rfl, ?_⟩) ?_ ?_
      rotate_left
      · intro w'
        go_simp
        with_reducible rfl
      rotate_left
      · simp only [Act.put, List.setIfInBounds_toArray, List.set_cons_zero, List.set_cons_succ, i64_w, i32_w]
        rfl
      refine pure_ (i := 5) (N := (some 18)) (v := ?_) (a' := ?_) #[true, true, true, true, true, true, false, false, false, false] rfl rfl (any_of HT_.out (by kernel_rfl)) (fun _ _ _ h => h) (Or.inl ⟨by rfl, ?_⟩) ?_ ?_
      rotate_left
      · intro w'
        go_simp
        with_reducible rfl
      rotate_left
      · simp only [Act.put, List.setIfInBounds_toArray, List.set_cons_zero, List.set_cons_succ, i64_w, i32_w]
        rfl
      refine take_ (i := 6) (N := (some 19)) (v := ?_) (a' := ?_) #[true, true, true, true, true, true, true, false, false, false] rfl rfl (take_ofW HT_.out HW_.out (by kernel_rfl)) (fun _ _ _ h => h) (Or.inl ⟨by rfl, ?_⟩) hHeld ?_ ?_
      rotate_left
      · rintro w' ⟨s0, s1, s2, s3, s4, s5, s6⟩
        go_simp
        with_reducible rfl
      rotate_left
      · simp only [Act.put, List.setIfInBounds_toArray, List.set_cons_zero, List.set_cons_succ, i64_w, i32_w]
        rfl
      refine two_ (i := 7) (j := 8) (Ni := some 20) (Nj := some 5) #[true, true, true, true, true, true, true, true, false, false] #[true, true, true, true, true, true, true, false, true, false] rfl rfl rfl rfl (two_of HT_.out (by kernel_rfl)) (by decide) (by decide) (fun K hK => ?_) (fun K hK => ?_)
      · refine goes_ Try.func12 (by kernel_rfl) rfl #[.agg #[.int .i64 s.ro, .slice X0 m y0, .slice X1 m y1, .slice X2 m y2, .slice X3 s.bd.length y3], .int .i64 p0, .int .i64 p1] (by rfl) rfl rfl (by (try simp only [List.map_toArray, List.map_cons, List.map_nil]); first | done | rfl) ?_
        refine (impl_AdaptState _ s p0 p1 _ (HO.out.r.to bD) HOK.out).mono ?_
        rintro e w1_ ⟨va, rfl, hx, q1_⟩
        refine ⟨_, rfl, ?_⟩
        rw [HRV.out] at hx
        obtain ⟨Z0, z0, Z1, z1, Z2, z2, Z3, z3, rfl, _⟩ := StR_mAdapted (s := s) (m := N) hx.r HXL.out
        have b1_ := bD.trans q1_
        have HX := hid (show ∃ lo hi, StO _ lo hi (.agg #[.int .i64 s.ro, .slice Z0 N z0, .slice Z1 N z1, .slice Z2 N z2, .slice Z3 s.bd.length z3]) RV ∧ hi ≤ w1_.heap.size from ⟨_, _, hx, Nat.le_refl _⟩)
        clear hx
        refine hK.out _ _ ⟨pw_cell_below b1_.out g0, pw_cell_below b1_.out g1, pw_cell_below b1_.out g2, pw_cell_below b1_.out g3, pw_cell_below b1_.out g4, pw_cell_below b1_.out hcp0, pw_cell_below b1_.out hcp1⟩ (fun hHeld => ?_)
        clear hK K
        refine norm_ (a' := ?_) ?_ ?_
        rotate_left
        · show Act.put _ (some 20) _ = _
          simp only [Act.put, List.setIfInBounds_toArray, List.set_cons_zero, List.set_cons_succ, i64_w, i32_w]
          rfl
        refine one_ (i := 8) (N := (some 5)) #[true, true, true, true, true, true, true, true, true, false] rfl rfl (one_of HT_.out (by kernel_rfl)) (by decide) (fun K hK => ?_)
        refine box_step ?hg (N := 5) ?hd (cs := #[.int .i64 0, .slice none 0 0, .slice none 0 0, .slice none 0 0, .slice none 0 0]) (t := 29) ?hr ?_; (case hd => rfl); (case hg => rfl); (case hr => first | (go_simp; done) | (go_simp; rfl))
        intro G hG w2_ hbox hb2_
        have HG0 := hid hG
        have b2_ := b1_.trans ⟨hb2_⟩
        have HGE := hid (show w3.heap.size ≤ G by have := b1_.size; first | omega | (simp at hG; omega))
        clear hG
        replace HX := hid (show ∃ lo hi, StO _ lo hi (.agg #[.int .i64 s.ro, .slice Z0 N z0, .slice Z1 N z1, .slice Z2 N z2, .slice Z3 s.bd.length z3]) RV ∧ hi ≤ G from by obtain ⟨lo, hi, h, h2⟩ := HX.out; have hG := HG0.out; exact ⟨lo, hi, h.to ⟨hb2_⟩, by first | (rw [hG]; exact h2) | (simp at hG; omega) | omega⟩)
        refine hK.out _ _ ⟨pw_cell_below b2_.out g0, pw_cell_below b2_.out g1, pw_cell_below b2_.out g2, pw_cell_below b2_.out g3, pw_cell_below b2_.out g4, pw_cell_below b2_.out hcp0, pw_cell_below b2_.out hcp1⟩ (fun hHeld => ?_)
        clear hK K
        refine norm_ (a' := ?_) ?_ ?_
        rotate_left
        · show Act.put _ (some 5) _ = _
          simp only [Act.put, List.setIfInBounds_toArray, List.set_cons_zero, List.set_cons_succ, i64_w, i32_w]
          rfl
        obtain ⟨lo, hi, hx, hd⟩ := HX.out
        have s0 := (blk_cell hbox 0).trans (show _ = some (Value.int .i64 0) from rfl)
        have f0 := blk_frozen hbox 0
        have s1 := (blk_cell hbox 1).trans (show _ = some (Value.slice none 0 0) from rfl)
        have f1 := blk_frozen hbox 1
        have s2 := (blk_cell hbox 2).trans (show _ = some (Value.slice none 0 0) from rfl)
        have f2 := blk_frozen hbox 2
        have s3 := (blk_cell hbox 3).trans (show _ = some (Value.slice none 0 0) from rfl)
        have f3 := blk_frozen hbox 3
        have s4 := (blk_cell hbox 4).trans (show _ = some (Value.slice none 0 0) from rfl)
        have f4 := blk_frozen hbox 4
        have hblk := hid (blk_set (blk_set (blk_set (blk_set (blk_set hbox 0 (.int .i64 s.ro)) 1 (.slice Z0 N z0)) 2 (.slice Z1 N z1)) 3 (.slice Z2 N z2)) 4 (.slice Z3 s.bd.length z3))
        have hwi := (((((Wi.refl w2_ _ _).trans (Wi.set _ G 0 (.int .i64 s.ro))).trans (Wi.set _ G 1 (.slice Z0 N z0))).trans (Wi.set _ G 2 (.slice Z1 N z1))).trans (Wi.set _ G 3 (.slice Z2 N z2))).trans (Wi.set _ G 4 (.slice Z3 s.bd.length z3))
        have hfin := hid (And.intro (hx.wi hwi (by omega)) (b2_.then_wi hwi (by have := HGE.out; omega)))
        clear hx hbox hwi
        refine last_ (i := 9) (N := none) #[true, true, true, true, true, true, true, true, true, true] rfl rfl (one_of HT_.out (by kernel_rfl)) (by decide) (fun K hK => ?_)
        refine skip_ (w1 := ?_) (by rfl) rfl ?_ ?_
        rotate_left
        · go_simp
          rfl
        refine hK.out _ _ ?_
        clear hK K
        refine done_ (done_of HT_.out (by kernel_rfl)) ?_
        go_wp2
        go_meet
        case rel => exact ⟨G, lo, hi, Z0, z0, Z1, z1, Z2, z2, Z3, z3, rfl, hblk.out, hfin.out.1, hfin.out.2⟩
      · refine box_step ?hg (N := 5) ?hd (cs := #[.int .i64 0, .slice none 0 0, .slice none 0 0, .slice none 0 0, .slice none 0 0]) (t := 29) ?hr ?_; (case hd => rfl); (case hg => rfl); (case hr => first | (go_simp; done) | (go_simp; rfl))
        intro G hG w3_ hbox hb3_
        have HG0 := hid hG
        have b3_ := bD.trans ⟨hb3_⟩
        have HGE := hid (show w3.heap.size ≤ G by have := bD.size; first | omega | (simp at hG; omega))
        clear hG
        refine hK.out _ _ ⟨pw_cell_below b3_.out g0, pw_cell_below b3_.out g1, pw_cell_below b3_.out g2, pw_cell_below b3_.out g3, pw_cell_below b3_.out g4, pw_cell_below b3_.out hcp0, pw_cell_below b3_.out hcp1⟩ (fun hHeld => ?_)
        clear hK K
        refine norm_ (a' := ?_) ?_ ?_
        rotate_left
        · show Act.put _ (some 5) _ = _
          simp only [Act.put, List.setIfInBounds_toArray, List.set_cons_zero, List.set_cons_succ, i64_w, i32_w]
          rfl
        refine one_ (i := 7) (N := (some 20)) #[true, true, true, true, true, true, true, true, true, false] rfl rfl (one_of HT_.out (by kernel_rfl)) (by decide) (fun K hK => ?_)
        refine goes_ Try.func12 (by kernel_rfl) rfl #[.agg #[.int .i64 s.ro, .slice X0 m y0, .slice X1 m y1, .slice X2 m y2, .slice X3 s.bd.length y3], .int .i64 p0, .int .i64 p1] (by rfl) rfl rfl (by (try simp only [List.map_toArray, List.map_cons, List.map_nil]); first | done | rfl) ?_
        refine (impl_AdaptState _ s p0 p1 _ (HO.out.r.to b3_) HOK.out).mono ?_
        rintro e w4_ ⟨va, rfl, hx, q4_⟩
        refine ⟨_, rfl, ?_⟩
        rw [HRV.out] at hx
        obtain ⟨Z0, z0, Z1, z1, Z2, z2, Z3, z3, rfl, _⟩ := StR_mAdapted (s := s) (m := N) hx.r HXL.out
        have b4_ := b3_.trans q4_
        have HGL := hid (blk_lt hbox)
        replace hbox := (q4_.out.block _ (blk_lt hbox)).trans hbox
        have HX := hid (show ∃ lo hi, StO _ lo hi (.agg #[.int .i64 s.ro, .slice Z0 N z0, .slice Z1 N z1, .slice Z2 N z2, .slice Z3 s.bd.length z3]) RV ∧ (G < lo) from ⟨_, _, hx, HGL.out⟩)
        clear hx
        refine hK.out _ _ ⟨pw_cell_below b4_.out g0, pw_cell_below b4_.out g1, pw_cell_below b4_.out g2, pw_cell_below b4_.out g3, pw_cell_below b4_.out g4, pw_cell_below b4_.out hcp0, pw_cell_below b4_.out hcp1⟩ (fun hHeld => ?_)
        clear hK K
        refine norm_ (a' := ?_) ?_ ?_
        rotate_left
        · show Act.put _ (some 20) _ = _
          simp only [Act.put, List.setIfInBounds_toArray, List.set_cons_zero, List.set_cons_succ, i64_w, i32_w]
          rfl
        obtain ⟨lo, hi, hx, hd⟩ := HX.out
        have s0 := (blk_cell hbox 0).trans (show _ = some (Value.int .i64 0) from rfl)
        have f0 := blk_frozen hbox 0
        have s1 := (blk_cell hbox 1).trans (show _ = some (Value.slice none 0 0) from rfl)
        have f1 := blk_frozen hbox 1
        have s2 := (blk_cell hbox 2).trans (show _ = some (Value.slice none 0 0) from rfl)
        have f2 := blk_frozen hbox 2
        have s3 := (blk_cell hbox 3).trans (show _ = some (Value.slice none 0 0) from rfl)
        have f3 := blk_frozen hbox 3
        have s4 := (blk_cell hbox 4).trans (show _ = some (Value.slice none 0 0) from rfl)
        have f4 := blk_frozen hbox 4
        have hblk := hid (blk_set (blk_set (blk_set (blk_set (blk_set hbox 0 (.int .i64 s.ro)) 1 (.slice Z0 N z0)) 2 (.slice Z1 N z1)) 3 (.slice Z2 N z2)) 4 (.slice Z3 s.bd.length z3))
        have hwi := (((((Wi.refl w4_ _ _).trans (Wi.set _ G 0 (.int .i64 s.ro))).trans (Wi.set _ G 1 (.slice Z0 N z0))).trans (Wi.set _ G 2 (.slice Z1 N z1))).trans (Wi.set _ G 3 (.slice Z2 N z2))).trans (Wi.set _ G 4 (.slice Z3 s.bd.length z3))
        have hfin := hid (And.intro (hx.wi hwi (by omega)) (b4_.then_wi hwi (by have := HGE.out; omega)))
        clear hx hbox hwi
        refine last_ (i := 9) (N := none) #[true, true, true, true, true, true, true, true, true, true] rfl rfl (one_of HT_.out (by kernel_rfl)) (by decide) (fun K hK => ?_)
        refine skip_ (w1 := ?_) (by rfl) rfl ?_ ?_
        rotate_left
        · go_simp
          rfl
        refine hK.out _ _ ?_
        clear hK K
        refine done_ (done_of HT_.out (by kernel_rfl)) ?_
        go_wp2
        go_meet
        case rel => exact ⟨G, lo, hi, Z0, z0, Z1, z1, Z2, z2, Z3, z3, rfl, hblk.out, hfin.out.1, hfin.out.2⟩
    case rest =>
      obtain ⟨G, lo, hi, Z0, z0, Z1, z1, Z2, z2, Z3, z3, rfl, hG, hX, hBx⟩ := hcut
      replace g0 := pw_cell_below hBx.out g0
      replace g1 := pw_cell_below hBx.out g1
      replace g2 := pw_cell_below hBx.out g2
      replace g3 := pw_cell_below hBx.out g3
      replace g4 := pw_cell_below hBx.out g4
      have x0 := (blk_cell hG 0).trans (show _ = some (Value.int .i64 s.ro) from rfl)
      have x1 := (blk_cell hG 1).trans (show _ = some (Value.slice Z0 N z0) from rfl)
      have x2 := (blk_cell hG 2).trans (show _ = some (Value.slice Z1 N z1) from rfl)
      have x3 := (blk_cell hG 3).trans (show _ = some (Value.slice Z2 N z2) from rfl)
      have x4 := (blk_cell hG 4).trans (show _ = some (Value.slice Z3 s.bd.length z3) from rfl)
      have HBc := hid (HB.out.trans hBx)
      have HOc := hid (HO.out.to hBx)
      have HXc := hid hX
      clear hcp0 hcp1 hG hX hBx HB HO
      generalize wc = w4 at *
      have HNO := hid (show adS s 1000000000000 0 = s from adS_none HOK.out (by decide) (by decide))
      go_wp2_with fail
      refine (impl_AdaptState _ s 1000000000000 0 _ HOc.out.r HOK.out).mono ?_
      rintro e w5 ⟨v, rfl, hY, b5⟩
      rw [HNO.out] at hY
      obtain ⟨Y0, u0, Y1, u1, Y2, u2, Y3, u3, rfl, _⟩ := StR_mAdapted (s := s) (m := m) hY.r ⟨rfl, HM.out.1, HM.out.2.1, HM.out.2.2, rfl⟩
      have b6 := Bw.box1 w5 (.cells #[.int .i64 s.ro, .slice Y0 m u0, .slice Y1 m u1, .slice Y2 m u2, .slice Y3 s.bd.length u3] 29)
      have h0 := box_cell (Bw.refl (w5.alloc (.cells #[.int .i64 s.ro, .slice Y0 m u0, .slice Y1 m u1, .slice Y2 m u2, .slice Y3 s.bd.length u3] 29))) 0
      have h1 := box_cell (Bw.refl (w5.alloc (.cells #[.int .i64 s.ro, .slice Y0 m u0, .slice Y1 m u1, .slice Y2 m u2, .slice Y3 s.bd.length u3] 29))) 1
      have h2 := box_cell (Bw.refl (w5.alloc (.cells #[.int .i64 s.ro, .slice Y0 m u0, .slice Y1 m u1, .slice Y2 m u2, .slice Y3 s.bd.length u3] 29))) 2
      have h3 := box_cell (Bw.refl (w5.alloc (.cells #[.int .i64 s.ro, .slice Y0 m u0, .slice Y1 m u1, .slice Y2 m u2, .slice Y3 s.bd.length u3] 29))) 3
      have h4 := box_cell (Bw.refl (w5.alloc (.cells #[.int .i64 s.ro, .slice Y0 m u0, .slice Y1 m u1, .slice Y2 m u2, .slice Y3 s.bd.length u3] 29))) 4
      simp only [List.getElem?_toArray, List.getElem?_cons_zero, List.getElem?_cons_succ] at h0 h1 h2 h3 h4
      have bb := b5.trans b6
      replace g0 := pw_cell_below bb.out g0
      replace g1 := pw_cell_below bb.out g1
      replace g2 := pw_cell_below bb.out g2
      replace g3 := pw_cell_below bb.out g3
      replace g4 := pw_cell_below bb.out g4
      replace x0 := pw_cell_below bb.out x0
      replace x1 := pw_cell_below bb.out x1
      replace x2 := pw_cell_below bb.out x2
      replace x3 := pw_cell_below bb.out x3
      replace x4 := pw_cell_below bb.out x4
      have HB6 := hid (HBc.out.trans bb)
      have HX6 := hid (HXc.out.to bb)
      have HO6 := hid (HOc.out.to bb)
      have HY6 := hid (hY.to b6)
      go_upto_region 7 with fail
      generalize (w5.alloc (.cells #[.int .i64 s.ro, .slice Y0 m u0, .slice Y1 m u1, .slice Y2 m u2, .slice Y3 s.bd.length u3] 29)) = w6 at *
      generalize w5.heap.size = PY at *
      have HXB := hid (show RI w6 Z3 s.bd.length s.bd from by rw [← HTK.out.bd]; exact StR_bed (by rw [HTK.out.bd]; exact HX6.out.r))
      have HSB := hid (StR_bed HO6.out.r)
      have v1 : decide (ga ≤ gb) = true := decide_eq_true HSH.out.1
      have v2 : decide (la ≥ lb) = true := decide_eq_true HSH.out.2
      have v3 : decide (lb ≤ la) = true := decide_eq_true HSH.out.2
      clear hY b5 b6 bb HBc HXc HOc
      have bD := Bw.drawn (a := w6) ⟨⟨1, rfl⟩⟩
      refine start_ (n := 43) (S := fun w' => w'.cell? ⟨w1.heap.size, 0, none⟩ = some (.int .i64 s.ro) ∧ w'.cell? ⟨w1.heap.size, 1, none⟩ = some (.slice X0 m y0) ∧ w'.cell? ⟨w1.heap.size, 2, none⟩ = some (.slice X1 m y1) ∧ w'.cell? ⟨w1.heap.size, 3, none⟩ = some (.slice X2 m y2) ∧ w'.cell? ⟨w1.heap.size, 4, none⟩ = some (.slice X3 s.bd.length y3) ∧ w'.cell? ⟨G, 0, none⟩ = some (.int .i64 s.ro) ∧ w'.cell? ⟨G, 1, none⟩ = some (.slice Z0 N z0) ∧ w'.cell? ⟨G, 2, none⟩ = some (.slice Z1 N z1) ∧ w'.cell? ⟨G, 3, none⟩ = some (.slice Z2 N z2) ∧ w'.cell? ⟨G, 4, none⟩ = some (.slice Z3 s.bd.length z3) ∧ w'.cell? ⟨PY, 0, none⟩ = some (.int .i64 s.ro) ∧ w'.cell? ⟨PY, 1, none⟩ = some (.slice Y0 m u0) ∧ w'.cell? ⟨PY, 2, none⟩ = some (.slice Y1 m u1) ∧ w'.cell? ⟨PY, 3, none⟩ = some (.slice Y2 m u2) ∧ w'.cell? ⟨PY, 4, none⟩ = some (.slice Y3 s.bd.length u3)) (ds := [42]) #[false, false, false, false, false, false, false, false, false, false, false, false, false, false, false, false, false, false, false, false, false, false, false, false, false, false, false, false, false, false, false, false, false, false, false, false, false, false, false, false, false, false, false] (by kernel_rfl) rfl rfl ⟨g0, g1, g2, g3, g4, x0, x1, x2, x3, x4, h0, h1, h2, h3, h4⟩ (fun hHeld => ?_)
      refine with_tabW tabY7 bitsY7 (fun HT_ HW_ => ?_)
      refine take_ (i := 0) (N := (some 23)) (v := ?_) (a' := ?_) #[true, false, false, false, false, false, false, false, false, false, false, false, false, false, false, false, false, false, false, false, false, false, false, false, false, false, false, false, false, false, false, false, false, false, false, false, false, false, false, false, false, false, false] rfl rfl (take_ofW HT_.out HW_.out (by kernel_rfl)) (fun _ _ _ h => h) (Or.inl ⟨by rfl, ?_⟩) hHeld ?_ ?_
      rotate_left
      · rintro w' ⟨s0, s1, s2, s3, s4, s5, s6, s7, s8, s9, s10, s11, s12, s13, s14⟩
        go_simp
        with_reducible rfl
      rotate_left
      · simp only [Act.put, List.setIfInBounds_toArray, List.set_cons_zero, List.set_cons_succ, i64_w, i32_w]
        rfl
      refine one_ (i := 1) (N := (some 24)) #[true, true, false, false, false, false, false, false, false, false, false, false, false, false, false, false, false, false, false, false, false, false, false, false, false, false, false, false, false, false, false, false, false, false, false, false, false, false, false, false, false, false, false] rfl rfl (one_of HT_.out (by kernel_rfl)) (by decide) (fun K hK => ?_)
      refine goes_ Try.func13 (by kernel_rfl) rfl #[.agg #[.int .i64 s.ro, .slice Z0 N z0, .slice Z1 N z1, .slice Z2 N z2, .slice Z3 s.bd.length z3]] (by rfl) rfl rfl (by (try simp only [List.map_toArray, List.map_cons, List.map_nil]); first | done | rfl) ?_
      refine (spec_StateOkR _ RV _ (HX6.out.r.to bD) HXOK.out).mono ?_
      rintro e wq1 ⟨rfl, bq1⟩
      refine ⟨_, rfl, ?_⟩
      have bn1 := bD.trans bq1
      refine hK.out _ _ ⟨pw_cell_below bn1.out g0, pw_cell_below bn1.out g1, pw_cell_below bn1.out g2, pw_cell_below bn1.out g3, pw_cell_below bn1.out g4, pw_cell_below bn1.out x0, pw_cell_below bn1.out x1, pw_cell_below bn1.out x2, pw_cell_below bn1.out x3, pw_cell_below bn1.out x4, pw_cell_below bn1.out h0, pw_cell_below bn1.out h1, pw_cell_below bn1.out h2, pw_cell_below bn1.out h3, pw_cell_below bn1.out h4⟩ (fun hHeld => ?_)
      clear hK K
      refine norm_ (a' := ?_) ?_ ?_
      rotate_left
      · show Act.put _ (some 24) _ = _
        simp only [Act.put, List.setIfInBounds_toArray, List.set_cons_zero, List.set_cons_succ, i64_w, i32_w]
        rfl
      refine pure_ (i := 2) (N := (some 25)) (v := ?_) (a' := ?_) #[true, true, true, false, false, false, false, false, false, false, false, false, false, false, false, false, false, false, false, false, false, false, false, false, false, false, false, false, false, false, false, false, false, false, false, false, false, false, false, false, false, false, false] rfl rfl (any_of HT_.out (by kernel_rfl)) (fun _ _ _ h => h) (Or.inl ⟨by rfl, ?_⟩) ?_ ?_
      rotate_left
      · intro w'
        go_simp
        with_reducible rfl
      rotate_left
      · simp only [Act.put, List.setIfInBounds_toArray, List.set_cons_zero, List.set_cons_succ, i64_w, i32_w]
        rfl
      refine take_ (i := 3) (N := (some 26)) (v := ?_) (a' := ?_) #[true, true, true, true, false, false, false, false, false, false, false, false, false, false, false, false, false, false, false, false, false, false, false, false, false, false, false, false, false, false, false, false, false, false, false, false, false, false, false, false, false, false, false] rfl rfl (take_ofW HT_.out HW_.out (by kernel_rfl)) (fun _ _ _ h => h) (Or.inl ⟨by rfl, ?_⟩) hHeld ?_ ?_
      rotate_left
      · rintro w' ⟨s0, s1, s2, s3, s4, s5, s6, s7, s8, s9, s10, s11, s12, s13, s14⟩
        go_simp
        with_reducible rfl
      rotate_left
      · simp only [Act.put, List.setIfInBounds_toArray, List.set_cons_zero, List.set_cons_succ, i64_w, i32_w]
        rfl
      refine take_ (i := 5) (N := (some 28)) (v := ?_) (a' := ?_) #[true, true, true, true, false, true, false, false, false, false, false, false, false, false, false, false, false, false, false, false, false, false, false, false, false, false, false, false, false, false, false, false, false, false, false, false, false, false, false, false, false, false, false] rfl rfl (take_ofW HT_.out HW_.out (by kernel_rfl)) (fun _ _ _ h => h) (Or.inl ⟨by rfl, ?_⟩) hHeld ?_ ?_
      rotate_left
      · rintro w' ⟨s0, s1, s2, s3, s4, s5, s6, s7, s8, s9, s10, s11, s12, s13, s14⟩
        go_simp
        with_reducible rfl
      rotate_left
      · simp only [Act.put, List.setIfInBounds_toArray, List.set_cons_zero, List.set_cons_succ, i64_w, i32_w]
        rfl
      refine one_ (i := 4) (N := (some 27)) #[true, true, true, true, true, true, false, false, false, false, false, false, false, false, false, false, false, false, false, false, false, false, false, false, false, false, false, false, false, false, false, false, false, false, false, false, false, false, false, false, false, false, false] rfl rfl (one_of HT_.out (by kernel_rfl)) (by decide) (fun K hK => ?_)
      refine goes_ Try.func14 (by kernel_rfl) rfl #[.agg #[.int .i64 s.ro, .slice Z0 N z0, .slice Z1 N z1, .slice Z2 N z2, .slice Z3 s.bd.length z3]] (by rfl) rfl rfl (by (try simp only [List.map_toArray, List.map_cons, List.map_nil]); first | done | rfl) ?_
      refine (spec_TotalMass _ RV _ (HX6.out.r.to bn1) HXOK.out).mono ?_
      rintro e wq2 ⟨rfl, bq2⟩
      refine ⟨_, rfl, ?_⟩
      rw [HTM.out.1]
      have bn2 := bn1.trans bq2
      refine hK.out _ _ ⟨pw_cell_below bn2.out g0, pw_cell_below bn2.out g1, pw_cell_below bn2.out g2, pw_cell_below bn2.out g3, pw_cell_below bn2.out g4, pw_cell_below bn2.out x0, pw_cell_below bn2.out x1, pw_cell_below bn2.out x2, pw_cell_below bn2.out x3, pw_cell_below bn2.out x4, pw_cell_below bn2.out h0, pw_cell_below bn2.out h1, pw_cell_below bn2.out h2, pw_cell_below bn2.out h3, pw_cell_below bn2.out h4⟩ (fun hHeld => ?_)
      clear hK K
      refine norm_ (a' := ?_) ?_ ?_
      rotate_left
      · show Act.put _ (some 27) _ = _
        simp only [Act.put, List.setIfInBounds_toArray, List.set_cons_zero, List.set_cons_succ, i64_w, i32_w]
        rfl
      refine one_ (i := 6) (N := (some 29)) #[true, true, true, true, true, true, true, false, false, false, false, false, false, false, false, false, false, false, false, false, false, false, false, false, false, false, false, false, false, false, false, false, false, false, false, false, false, false, false, false, false, false, false] rfl rfl (one_of HT_.out (by kernel_rfl)) (by decide) (fun K hK => ?_)
      refine goes_ Try.func14 (by kernel_rfl) rfl #[.agg #[.int .i64 s.ro, .slice X0 m y0, .slice X1 m y1, .slice X2 m y2, .slice X3 s.bd.length y3]] (by rfl) rfl rfl (by (try simp only [List.map_toArray, List.map_cons, List.map_nil]); first | done | rfl) ?_
      refine (spec_TotalMass _ s _ (HO6.out.r.to bn2) HOK.out).mono ?_
      rintro e wq3 ⟨rfl, bq3⟩
      refine ⟨_, rfl, ?_⟩
      rw [HTM.out.2]
      have bn3 := bn2.trans bq3
      refine hK.out _ _ ⟨pw_cell_below bn3.out g0, pw_cell_below bn3.out g1, pw_cell_below bn3.out g2, pw_cell_below bn3.out g3, pw_cell_below bn3.out g4, pw_cell_below bn3.out x0, pw_cell_below bn3.out x1, pw_cell_below bn3.out x2, pw_cell_below bn3.out x3, pw_cell_below bn3.out x4, pw_cell_below bn3.out h0, pw_cell_below bn3.out h1, pw_cell_below bn3.out h2, pw_cell_below bn3.out h3, pw_cell_below bn3.out h4⟩ (fun hHeld => ?_)
      clear hK K
      refine norm_ (a' := ?_) ?_ ?_
      rotate_left
      · show Act.put _ (some 29) _ = _
        simp only [Act.put, List.setIfInBounds_toArray, List.set_cons_zero, List.set_cons_succ, i64_w, i32_w]
        rfl
      refine pure_ (i := 7) (N := (some 30)) (v := ?_) (a' := ?_) #[true, true, true, true, true, true, true, true, false, false, false, false, false, false, false, false, false, false, false, false, false, false, false, false, false, false, false, false, false, false, false, false, false, false, false, false, false, false, false, false, false, false, false] rfl rfl (any_of HT_.out (by kernel_rfl)) (fun _ _ _ h => h) (Or.inl ⟨by rfl, ?_⟩) ?_ ?_
      rotate_left
      · intro w'
        go_simp
        with_reducible rfl
      rotate_left
      · simp only [Act.put, List.setIfInBounds_toArray, List.set_cons_zero, List.set_cons_succ, i64_w, i32_w]
        rfl
      refine pure_ (i := 8) (N := (some 31)) (v := ?_) (a' := ?_) #[true, true, true, true, true, true, true, true, true, false, false, false, false, false, false, false, false, false, false, false, false, false, false, false, false, false, false, false, false, false, false, false, false, false, false, false, false, false, false, false, false, false, false] rfl rfl (any_of HT_.out (by kernel_rfl)) (fun _ _ _ h => h) (Or.inl ⟨by rfl, ?_⟩) ?_ ?_
      rotate_left
      · intro w'
        go_simp
        with_reducible rfl
      rotate_left
      · simp only [Act.put, List.setIfInBounds_toArray, List.set_cons_zero, List.set_cons_succ, i64_w, i32_w]
        rfl
      refine pure_ (i := 9) (N := (some 32)) (v := ?_) (a' := ?_) #[true, true, true, true, true, true, true, true, true, true, false, false, false, false, false, false, false, false, false, false, false, false, false, false, false, false, false, false, false, false, false, false, false, false, false, false, false, false, false, false, false, false, false] rfl rfl (any_of HT_.out (by kernel_rfl)) (fun _ _ _ h => h) (Or.inl ⟨by rfl, ?_⟩) ?_ ?_
      rotate_left
      · intro w'
        go_simp
        with_reducible rfl
      rotate_left
      · simp only [Act.put, List.setIfInBounds_toArray, List.set_cons_zero, List.set_cons_succ, i64_w, i32_w]
        rfl
      refine take_ (i := 10) (N := (some 33)) (v := ?_) (a' := ?_) #[true, true, true, true, true, true, true, true, true, true, true, false, false, false, false, false, false, false, false, false, false, false, false, false, false, false, false, false, false, false, false, false, false, false, false, false, false, false, false, false, false, false, false] rfl rfl (take_ofW HT_.out HW_.out (by kernel_rfl)) (fun _ _ _ h => h) (Or.inl ⟨by rfl, ?_⟩) hHeld ?_ ?_
      rotate_left
      · rintro w' ⟨s0, s1, s2, s3, s4, s5, s6, s7, s8, s9, s10, s11, s12, s13, s14⟩
        go_simp
        with_reducible rfl
      rotate_left
      · simp only [Act.put, List.setIfInBounds_toArray, List.set_cons_zero, List.set_cons_succ, i64_w, i32_w]
        rfl
      refine take_ (i := 12) (N := (some 35)) (v := ?_) (a' := ?_) #[true, true, true, true, true, true, true, true, true, true, true, false, true, false, false, false, false, false, false, false, false, false, false, false, false, false, false, false, false, false, false, false, false, false, false, false, false, false, false, false, false, false, false] rfl rfl (take_ofW HT_.out HW_.out (by kernel_rfl)) (fun _ _ _ h => h) (Or.inl ⟨by rfl, ?_⟩) hHeld ?_ ?_
      rotate_left
      · rintro w' ⟨s0, s1, s2, s3, s4, s5, s6, s7, s8, s9, s10, s11, s12, s13, s14⟩
        go_simp
        with_reducible rfl
      rotate_left
      · simp only [Act.put, List.setIfInBounds_toArray, List.set_cons_zero, List.set_cons_succ, i64_w, i32_w]
        rfl
      refine one_ (i := 11) (N := (some 34)) #[true, true, true, true, true, true, true, true, true, true, true, true, true, false, false, false, false, false, false, false, false, false, false, false, false, false, false, false, false, false, false, false, false, false, false, false, false, false, false, false, false, false, false] rfl rfl (one_of HT_.out (by kernel_rfl)) (by decide) (fun K hK => ?_)
      refine goes_ Try.func15 (by kernel_rfl) rfl #[.agg #[.int .i64 s.ro, .slice Z0 N z0, .slice Z1 N z1, .slice Z2 N z2, .slice Z3 s.bd.length z3]] (by rfl) rfl rfl (by (try simp only [List.map_toArray, List.map_cons, List.map_nil]); first | done | rfl) ?_
      refine (spec_TotalTracer _ RV _ (HX6.out.r.to bn3) HXOK.out).mono ?_
      rintro e wq4 ⟨rfl, bq4⟩
      refine ⟨_, rfl, ?_⟩
      rw [HTT.out.1]
      have bn4 := bn3.trans bq4
      refine hK.out _ _ ⟨pw_cell_below bn4.out g0, pw_cell_below bn4.out g1, pw_cell_below bn4.out g2, pw_cell_below bn4.out g3, pw_cell_below bn4.out g4, pw_cell_below bn4.out x0, pw_cell_below bn4.out x1, pw_cell_below bn4.out x2, pw_cell_below bn4.out x3, pw_cell_below bn4.out x4, pw_cell_below bn4.out h0, pw_cell_below bn4.out h1, pw_cell_below bn4.out h2, pw_cell_below bn4.out h3, pw_cell_below bn4.out h4⟩ (fun hHeld => ?_)
      clear hK K
      refine norm_ (a' := ?_) ?_ ?_
      rotate_left
      · show Act.put _ (some 34) _ = _
        simp only [Act.put, List.setIfInBounds_toArray, List.set_cons_zero, List.set_cons_succ, i64_w, i32_w]
        rfl
      refine one_ (i := 13) (N := (some 36)) #[true, true, true, true, true, true, true, true, true, true, true, true, true, true, false, false, false, false, false, false, false, false, false, false, false, false, false, false, false, false, false, false, false, false, false, false, false, false, false, false, false, false, false] rfl rfl (one_of HT_.out (by kernel_rfl)) (by decide) (fun K hK => ?_)
      refine goes_ Try.func15 (by kernel_rfl) rfl #[.agg #[.int .i64 s.ro, .slice X0 m y0, .slice X1 m y1, .slice X2 m y2, .slice X3 s.bd.length y3]] (by rfl) rfl rfl (by (try simp only [List.map_toArray, List.map_cons, List.map_nil]); first | done | rfl) ?_
      refine (spec_TotalTracer _ s _ (HO6.out.r.to bn4) HOK.out).mono ?_
      rintro e wq5 ⟨rfl, bq5⟩
      refine ⟨_, rfl, ?_⟩
      rw [HTT.out.2]
      have bn5 := bn4.trans bq5
      refine hK.out _ _ ⟨pw_cell_below bn5.out g0, pw_cell_below bn5.out g1, pw_cell_below bn5.out g2, pw_cell_below bn5.out g3, pw_cell_below bn5.out g4, pw_cell_below bn5.out x0, pw_cell_below bn5.out x1, pw_cell_below bn5.out x2, pw_cell_below bn5.out x3, pw_cell_below bn5.out x4, pw_cell_below bn5.out h0, pw_cell_below bn5.out h1, pw_cell_below bn5.out h2, pw_cell_below bn5.out h3, pw_cell_below bn5.out h4⟩ (fun hHeld => ?_)
      clear hK K
      refine norm_ (a' := ?_) ?_ ?_
      rotate_left
      · show Act.put _ (some 36) _ = _
        simp only [Act.put, List.setIfInBounds_toArray, List.set_cons_zero, List.set_cons_succ, i64_w, i32_w]
        rfl
      refine pure_ (i := 14) (N := (some 37)) (v := ?_) (a' := ?_) #[true, true, true, true, true, true, true, true, true, true, true, true, true, true, true, false, false, false, false, false, false, false, false, false, false, false, false, false, false, false, false, false, false, false, false, false, false, false, false, false, false, false, false] rfl rfl (any_of HT_.out (by kernel_rfl)) (fun _ _ _ h => h) (Or.inl ⟨by rfl, ?_⟩) ?_ ?_
      rotate_left
      · intro w'
        go_simp
        with_reducible rfl
      rotate_left
      · simp only [Act.put, List.setIfInBounds_toArray, List.set_cons_zero, List.set_cons_succ, i64_w, i32_w]
        rfl
      refine pure_ (i := 15) (N := (some 38)) (v := ?_) (a' := ?_) #[true, true, true, true, true, true, true, true, true, true, true, true, true, true, true, true, false, false, false, false, false, false, false, false, false, false, false, false, false, false, false, false, false, false, false, false, false, false, false, false, false, false, false] rfl rfl (any_of HT_.out (by kernel_rfl)) (fun _ _ _ h => h) (Or.inl ⟨by rfl, ?_⟩) ?_ ?_
      rotate_left
      · intro w'
        go_simp
        with_reducible rfl
      rotate_left
      · simp only [Act.put, List.setIfInBounds_toArray, List.set_cons_zero, List.set_cons_succ, i64_w, i32_w]
        rfl
      refine pure_ (i := 16) (N := (some 39)) (v := ?_) (a' := ?_) #[true, true, true, true, true, true, true, true, true, true, true, true, true, true, true, true, true, false, false, false, false, false, false, false, false, false, false, false, false, false, false, false, false, false, false, false, false, false, false, false, false, false, false] rfl rfl (any_of HT_.out (by kernel_rfl)) (fun _ _ _ h => h) (Or.inl ⟨by rfl, ?_⟩) ?_ ?_
      rotate_left
      · intro w'
        go_simp
        with_reducible rfl
      rotate_left
      · simp only [Act.put, List.setIfInBounds_toArray, List.set_cons_zero, List.set_cons_succ, i64_w, i32_w]
        rfl
      refine take_ (i := 17) (N := (some 40)) (v := ?_) (a' := ?_) #[true, true, true, true, true, true, true, true, true, true, true, true, true, true, true, true, true, true, false, false, false, false, false, false, false, false, false, false, false, false, false, false, false, false, false, false, false, false, false, false, false, false, false] rfl rfl (take_ofW HT_.out HW_.out (by kernel_rfl)) (fun _ _ _ h => h) (Or.inl ⟨by rfl, ?_⟩) hHeld ?_ ?_
      rotate_left
      · rintro w' ⟨s0, s1, s2, s3, s4, s5, s6, s7, s8, s9, s10, s11, s12, s13, s14⟩
        go_simp
        with_reducible rfl
      rotate_left
      · simp only [Act.put, List.setIfInBounds_toArray, List.set_cons_zero, List.set_cons_succ, i64_w, i32_w]
        rfl
      refine take_ (i := 19) (N := (some 42)) (v := ?_) (a' := ?_) #[true, true, true, true, true, true, true, true, true, true, true, true, true, true, true, true, true, true, false, true, false, false, false, false, false, false, false, false, false, false, false, false, false, false, false, false, false, false, false, false, false, false, false] rfl rfl (take_ofW HT_.out HW_.out (by kernel_rfl)) (fun _ _ _ h => h) (Or.inl ⟨by rfl, ?_⟩) hHeld ?_ ?_
      rotate_left
      · rintro w' ⟨s0, s1, s2, s3, s4, s5, s6, s7, s8, s9, s10, s11, s12, s13, s14⟩
        go_simp
        with_reducible rfl
      rotate_left
      · simp only [Act.put, List.setIfInBounds_toArray, List.set_cons_zero, List.set_cons_succ, i64_w, i32_w]
        rfl
      refine one_ (i := 18) (N := (some 41)) #[true, true, true, true, true, true, true, true, true, true, true, true, true, true, true, true, true, true, true, true, false, false, false, false, false, false, false, false, false, false, false, false, false, false, false, false, false, false, false, false, false, false, false] rfl rfl (one_of HT_.out (by kernel_rfl)) (by decide) (fun K hK => ?_)
      refine goes_ Try.func16 (by kernel_rfl) rfl #[.agg #[.int .i64 s.ro, .slice Z0 N z0, .slice Z1 N z1, .slice Z2 N z2, .slice Z3 s.bd.length z3]] (by rfl) rfl rfl (by (try simp only [List.map_toArray, List.map_cons, List.map_nil]); first | done | rfl) ?_
      refine (spec_GreatestShare _ RV _ (HX6.out.r.to bn5) HXOK.out).mono ?_
      rintro e wq6 ⟨rfl, bq6⟩
      refine ⟨_, rfl, ?_⟩
      rw [HGS.out.1]
      have bn6 := bn5.trans bq6
      refine hK.out _ _ ⟨pw_cell_below bn6.out g0, pw_cell_below bn6.out g1, pw_cell_below bn6.out g2, pw_cell_below bn6.out g3, pw_cell_below bn6.out g4, pw_cell_below bn6.out x0, pw_cell_below bn6.out x1, pw_cell_below bn6.out x2, pw_cell_below bn6.out x3, pw_cell_below bn6.out x4, pw_cell_below bn6.out h0, pw_cell_below bn6.out h1, pw_cell_below bn6.out h2, pw_cell_below bn6.out h3, pw_cell_below bn6.out h4⟩ (fun hHeld => ?_)
      clear hK K
      refine norm_ (a' := ?_) ?_ ?_
      rotate_left
      · show Act.put _ (some 41) _ = _
        simp only [Act.put, List.setIfInBounds_toArray, List.set_cons_zero, List.set_cons_succ, i64_w, i32_w]
        rfl
      refine one_ (i := 20) (N := (some 43)) #[true, true, true, true, true, true, true, true, true, true, true, true, true, true, true, true, true, true, true, true, true, false, false, false, false, false, false, false, false, false, false, false, false, false, false, false, false, false, false, false, false, false, false] rfl rfl (one_of HT_.out (by kernel_rfl)) (by decide) (fun K hK => ?_)
      refine goes_ Try.func16 (by kernel_rfl) rfl #[.agg #[.int .i64 s.ro, .slice X0 m y0, .slice X1 m y1, .slice X2 m y2, .slice X3 s.bd.length y3]] (by rfl) rfl rfl (by (try simp only [List.map_toArray, List.map_cons, List.map_nil]); first | done | rfl) ?_
      refine (spec_GreatestShare _ s _ (HO6.out.r.to bn6) HOK.out).mono ?_
      rintro e wq7 ⟨rfl, bq7⟩
      refine ⟨_, rfl, ?_⟩
      rw [HGS.out.2]
      have bn7 := bn6.trans bq7
      refine hK.out _ _ ⟨pw_cell_below bn7.out g0, pw_cell_below bn7.out g1, pw_cell_below bn7.out g2, pw_cell_below bn7.out g3, pw_cell_below bn7.out g4, pw_cell_below bn7.out x0, pw_cell_below bn7.out x1, pw_cell_below bn7.out x2, pw_cell_below bn7.out x3, pw_cell_below bn7.out x4, pw_cell_below bn7.out h0, pw_cell_below bn7.out h1, pw_cell_below bn7.out h2, pw_cell_below bn7.out h3, pw_cell_below bn7.out h4⟩ (fun hHeld => ?_)
      clear hK K
      refine norm_ (a' := ?_) ?_ ?_
      rotate_left
      · show Act.put _ (some 43) _ = _
        simp only [Act.put, List.setIfInBounds_toArray, List.set_cons_zero, List.set_cons_succ, i64_w, i32_w]
        rfl
      refine pure_ (i := 21) (N := (some 44)) (v := ?_) (a' := ?_) #[true, true, true, true, true, true, true, true, true, true, true, true, true, true, true, true, true, true, true, true, true, true, false, false, false, false, false, false, false, false, false, false, false, false, false, false, false, false, false, false, false, false, false] rfl rfl (any_of HT_.out (by kernel_rfl)) (fun _ _ _ h => h) (Or.inl ⟨by rfl, ?_⟩) ?_ ?_
      rotate_left
      · intro w'
        go_simp
        with_reducible rfl
      rotate_left
      · simp only [Act.put, List.setIfInBounds_toArray, List.set_cons_zero, List.set_cons_succ, i64_w, i32_w]
        rfl
      refine pure_ (i := 22) (N := (some 45)) (v := ?_) (a' := ?_) #[true, true, true, true, true, true, true, true, true, true, true, true, true, true, true, true, true, true, true, true, true, true, true, false, false, false, false, false, false, false, false, false, false, false, false, false, false, false, false, false, false, false, false] rfl rfl (any_of HT_.out (by kernel_rfl)) (fun _ _ _ h => h) (Or.inl ⟨by rfl, ?_⟩) ?_ ?_
      rotate_left
      · intro w'
        go_simp
        with_reducible rfl
      rotate_left
      · simp only [Act.put, List.setIfInBounds_toArray, List.set_cons_zero, List.set_cons_succ, i64_w, i32_w]
        rfl
      refine pure_ (i := 23) (N := (some 46)) (v := ?_) (a' := ?_) #[true, true, true, true, true, true, true, true, true, true, true, true, true, true, true, true, true, true, true, true, true, true, true, true, false, false, false, false, false, false, false, false, false, false, false, false, false, false, false, false, false, false, false] rfl rfl (any_of HT_.out (by kernel_rfl)) (fun _ _ _ h => h) (Or.inl ⟨by rfl, ?_⟩) ?_ ?_
      rotate_left
      · intro w'
        go_simp
        with_reducible rfl
      rotate_left
      · simp only [Act.put, List.setIfInBounds_toArray, List.set_cons_zero, List.set_cons_succ, i64_w, i32_w]
        rfl
      refine take_ (i := 24) (N := (some 47)) (v := ?_) (a' := ?_) #[true, true, true, true, true, true, true, true, true, true, true, true, true, true, true, true, true, true, true, true, true, true, true, true, true, false, false, false, false, false, false, false, false, false, false, false, false, false, false, false, false, false, false] rfl rfl (take_ofW HT_.out HW_.out (by kernel_rfl)) (fun _ _ _ h => h) (Or.inl ⟨by rfl, ?_⟩) hHeld ?_ ?_
      rotate_left
      · rintro w' ⟨s0, s1, s2, s3, s4, s5, s6, s7, s8, s9, s10, s11, s12, s13, s14⟩
        go_simp
        with_reducible rfl
      rotate_left
      · simp only [Act.put, List.setIfInBounds_toArray, List.set_cons_zero, List.set_cons_succ, i64_w, i32_w]
        rfl
      refine take_ (i := 26) (N := (some 49)) (v := ?_) (a' := ?_) #[true, true, true, true, true, true, true, true, true, true, true, true, true, true, true, true, true, true, true, true, true, true, true, true, true, false, true, false, false, false, false, false, false, false, false, false, false, false, false, false, false, false, false] rfl rfl (take_ofW HT_.out HW_.out (by kernel_rfl)) (fun _ _ _ h => h) (Or.inl ⟨by rfl, ?_⟩) hHeld ?_ ?_
      rotate_left
      · rintro w' ⟨s0, s1, s2, s3, s4, s5, s6, s7, s8, s9, s10, s11, s12, s13, s14⟩
        go_simp
        with_reducible rfl
      rotate_left
      · simp only [Act.put, List.setIfInBounds_toArray, List.set_cons_zero, List.set_cons_succ, i64_w, i32_w]
        rfl
      refine one_ (i := 25) (N := (some 48)) #[true, true, true, true, true, true, true, true, true, true, true, true, true, true, true, true, true, true, true, true, true, true, true, true, true, true, true, false, false, false, false, false, false, false, false, false, false, false, false, false, false, false, false] rfl rfl (one_of HT_.out (by kernel_rfl)) (by decide) (fun K hK => ?_)
      refine goes_ Try.func17 (by kernel_rfl) rfl #[.agg #[.int .i64 s.ro, .slice Z0 N z0, .slice Z1 N z1, .slice Z2 N z2, .slice Z3 s.bd.length z3]] (by rfl) rfl rfl (by (try simp only [List.map_toArray, List.map_cons, List.map_nil]); first | done | rfl) ?_
      refine (spec_LeastShare _ RV _ (HX6.out.r.to bn7) HXOK.out).mono ?_
      rintro e wq8 ⟨rfl, bq8⟩
      refine ⟨_, rfl, ?_⟩
      rw [HLS.out.1]
      have bn8 := bn7.trans bq8
      refine hK.out _ _ ⟨pw_cell_below bn8.out g0, pw_cell_below bn8.out g1, pw_cell_below bn8.out g2, pw_cell_below bn8.out g3, pw_cell_below bn8.out g4, pw_cell_below bn8.out x0, pw_cell_below bn8.out x1, pw_cell_below bn8.out x2, pw_cell_below bn8.out x3, pw_cell_below bn8.out x4, pw_cell_below bn8.out h0, pw_cell_below bn8.out h1, pw_cell_below bn8.out h2, pw_cell_below bn8.out h3, pw_cell_below bn8.out h4⟩ (fun hHeld => ?_)
      clear hK K
      refine norm_ (a' := ?_) ?_ ?_
      rotate_left
      · show Act.put _ (some 48) _ = _
        simp only [Act.put, List.setIfInBounds_toArray, List.set_cons_zero, List.set_cons_succ, i64_w, i32_w]
        rfl
      refine one_ (i := 27) (N := (some 50)) #[true, true, true, true, true, true, true, true, true, true, true, true, true, true, true, true, true, true, true, true, true, true, true, true, true, true, true, true, false, false, false, false, false, false, false, false, false, false, false, false, false, false, false] rfl rfl (one_of HT_.out (by kernel_rfl)) (by decide) (fun K hK => ?_)
      refine goes_ Try.func17 (by kernel_rfl) rfl #[.agg #[.int .i64 s.ro, .slice X0 m y0, .slice X1 m y1, .slice X2 m y2, .slice X3 s.bd.length y3]] (by rfl) rfl rfl (by (try simp only [List.map_toArray, List.map_cons, List.map_nil]); first | done | rfl) ?_
      refine (spec_LeastShare _ s _ (HO6.out.r.to bn8) HOK.out).mono ?_
      rintro e wq9 ⟨rfl, bq9⟩
      refine ⟨_, rfl, ?_⟩
      rw [HLS.out.2]
      have bn9 := bn8.trans bq9
      refine hK.out _ _ ⟨pw_cell_below bn9.out g0, pw_cell_below bn9.out g1, pw_cell_below bn9.out g2, pw_cell_below bn9.out g3, pw_cell_below bn9.out g4, pw_cell_below bn9.out x0, pw_cell_below bn9.out x1, pw_cell_below bn9.out x2, pw_cell_below bn9.out x3, pw_cell_below bn9.out x4, pw_cell_below bn9.out h0, pw_cell_below bn9.out h1, pw_cell_below bn9.out h2, pw_cell_below bn9.out h3, pw_cell_below bn9.out h4⟩ (fun hHeld => ?_)
      clear hK K
      refine norm_ (a' := ?_) ?_ ?_
      rotate_left
      · show Act.put _ (some 50) _ = _
        simp only [Act.put, List.setIfInBounds_toArray, List.set_cons_zero, List.set_cons_succ, i64_w, i32_w]
        rfl
      refine pure_ (i := 28) (N := (some 51)) (v := ?_) (a' := ?_) #[true, true, true, true, true, true, true, true, true, true, true, true, true, true, true, true, true, true, true, true, true, true, true, true, true, true, true, true, true, false, false, false, false, false, false, false, false, false, false, false, false, false, false] rfl rfl (any_of HT_.out (by kernel_rfl)) (fun _ _ _ h => h) (Or.inl ⟨by rfl, ?_⟩) ?_ ?_
      rotate_left
      · intro w'
        go_simp
        with_reducible rfl
      rotate_left
      · simp only [Act.put, List.setIfInBounds_toArray, List.set_cons_zero, List.set_cons_succ, i64_w, i32_w]
        rfl
      refine pure_ (i := 29) (N := (some 52)) (v := ?_) (a' := ?_) #[true, true, true, true, true, true, true, true, true, true, true, true, true, true, true, true, true, true, true, true, true, true, true, true, true, true, true, true, true, true, false, false, false, false, false, false, false, false, false, false, false, false, false] rfl rfl (any_of HT_.out (by kernel_rfl)) (fun _ _ _ h => h) (Or.inl ⟨by rfl, ?_⟩) ?_ ?_
      rotate_left
      · intro w'
        go_simp
        with_reducible rfl
      rotate_left
      · simp only [Act.put, List.setIfInBounds_toArray, List.set_cons_zero, List.set_cons_succ, i64_w, i32_w]
        rfl
      refine pure_ (i := 30) (N := (some 53)) (v := ?_) (a' := ?_) #[true, true, true, true, true, true, true, true, true, true, true, true, true, true, true, true, true, true, true, true, true, true, true, true, true, true, true, true, true, true, true, false, false, false, false, false, false, false, false, false, false, false, false] rfl rfl (any_of HT_.out (by kernel_rfl)) (fun _ _ _ h => h) (Or.inl ⟨by rfl, ?_⟩) ?_ ?_
      rotate_left
      · intro w'
        go_simp
        with_reducible rfl
      rotate_left
      · simp only [Act.put, List.setIfInBounds_toArray, List.set_cons_zero, List.set_cons_succ, i64_w, i32_w]
        rfl
      refine take_ (i := 31) (N := (some 54)) (v := ?_) (a' := ?_) #[true, true, true, true, true, true, true, true, true, true, true, true, true, true, true, true, true, true, true, true, true, true, true, true, true, true, true, true, true, true, true, true, false, false, false, false, false, false, false, false, false, false, false] rfl rfl (take_ofW HT_.out HW_.out (by kernel_rfl)) (fun _ _ _ h => h) (Or.inl ⟨by rfl, ?_⟩) hHeld ?_ ?_
      rotate_left
      · rintro w' ⟨s0, s1, s2, s3, s4, s5, s6, s7, s8, s9, s10, s11, s12, s13, s14⟩
        go_simp
        with_reducible rfl
      rotate_left
      · simp only [Act.put, List.setIfInBounds_toArray, List.set_cons_zero, List.set_cons_succ, i64_w, i32_w]
        rfl
      refine take_ (i := 32) (N := (some 55)) (v := ?_) (a' := ?_) #[true, true, true, true, true, true, true, true, true, true, true, true, true, true, true, true, true, true, true, true, true, true, true, true, true, true, true, true, true, true, true, true, true, false, false, false, false, false, false, false, false, false, false] rfl rfl (take_ofW HT_.out HW_.out (by kernel_rfl)) (fun _ _ _ h => h) (Or.inl ⟨by rfl, ?_⟩) hHeld ?_ ?_
      rotate_left
      · rintro w' ⟨s0, s1, s2, s3, s4, s5, s6, s7, s8, s9, s10, s11, s12, s13, s14⟩
        go_simp
        with_reducible rfl
      rotate_left
      · simp only [Act.put, List.setIfInBounds_toArray, List.set_cons_zero, List.set_cons_succ, i64_w, i32_w]
        rfl
      refine one_ (i := 33) (N := (some 56)) #[true, true, true, true, true, true, true, true, true, true, true, true, true, true, true, true, true, true, true, true, true, true, true, true, true, true, true, true, true, true, true, true, true, true, false, false, false, false, false, false, false, false, false] rfl rfl (one_of HT_.out (by kernel_rfl)) (by decide) (fun K hK => ?_)
      refine goes_ Try.func10 (by kernel_rfl) rfl #[.agg #[.int .i64 s.ro, .slice Y0 m u0, .slice Y1 m u1, .slice Y2 m u2, .slice Y3 s.bd.length u3], .agg #[.int .i64 s.ro, .slice X0 m y0, .slice X1 m y1, .slice X2 m y2, .slice X3 s.bd.length y3]] (by rfl) rfl rfl (by (try simp only [List.map_toArray, List.map_cons, List.map_nil]); first | done | rfl) ?_
      refine (spec_SameState_yes _ _ s _ (HY6.out.r.to bn9) (HO6.out.r.to bn9)).mono ?_
      rintro e wq10 ⟨rfl, bq10⟩
      refine ⟨_, rfl, ?_⟩
      have bn10 := bn9.trans bq10
      refine hK.out _ _ ⟨pw_cell_below bn10.out g0, pw_cell_below bn10.out g1, pw_cell_below bn10.out g2, pw_cell_below bn10.out g3, pw_cell_below bn10.out g4, pw_cell_below bn10.out x0, pw_cell_below bn10.out x1, pw_cell_below bn10.out x2, pw_cell_below bn10.out x3, pw_cell_below bn10.out x4, pw_cell_below bn10.out h0, pw_cell_below bn10.out h1, pw_cell_below bn10.out h2, pw_cell_below bn10.out h3, pw_cell_below bn10.out h4⟩ (fun hHeld => ?_)
      clear hK K
      refine norm_ (a' := ?_) ?_ ?_
      rotate_left
      · show Act.put _ (some 56) _ = _
        simp only [Act.put, List.setIfInBounds_toArray, List.set_cons_zero, List.set_cons_succ, i64_w, i32_w]
        rfl
      refine pure_ (i := 34) (N := (some 57)) (v := ?_) (a' := ?_) #[true, true, true, true, true, true, true, true, true, true, true, true, true, true, true, true, true, true, true, true, true, true, true, true, true, true, true, true, true, true, true, true, true, true, true, false, false, false, false, false, false, false, false] rfl rfl (any_of HT_.out (by kernel_rfl)) (fun _ _ _ h => h) (Or.inl ⟨by rfl, ?_⟩) ?_ ?_
      rotate_left
      · intro w'
        go_simp
        with_reducible rfl
      rotate_left
      · simp only [Act.put, List.setIfInBounds_toArray, List.set_cons_zero, List.set_cons_succ, i64_w, i32_w]
        rfl
      refine pure_ (i := 35) (N := (some 58)) (v := ?_) (a' := ?_) #[true, true, true, true, true, true, true, true, true, true, true, true, true, true, true, true, true, true, true, true, true, true, true, true, true, true, true, true, true, true, true, true, true, true, true, true, false, false, false, false, false, false, false] rfl rfl (any_of HT_.out (by kernel_rfl)) (fun _ _ _ h => h) (Or.inl ⟨by rfl, ?_⟩) ?_ ?_
      rotate_left
      · intro w'
        go_simp
        with_reducible rfl
      rotate_left
      · simp only [Act.put, List.setIfInBounds_toArray, List.set_cons_zero, List.set_cons_succ, i64_w, i32_w]
        rfl
      refine pure_ (i := 36) (N := (some 59)) (v := ?_) (a' := ?_) #[true, true, true, true, true, true, true, true, true, true, true, true, true, true, true, true, true, true, true, true, true, true, true, true, true, true, true, true, true, true, true, true, true, true, true, true, true, false, false, false, false, false, false] rfl rfl (any_of HT_.out (by kernel_rfl)) (fun _ _ _ h => h) (Or.inl ⟨by rfl, ?_⟩) ?_ ?_
      rotate_left
      · intro w'
        go_simp
        with_reducible rfl
      rotate_left
      · simp only [Act.put, List.setIfInBounds_toArray, List.set_cons_zero, List.set_cons_succ, i64_w, i32_w]
        rfl
      refine take_ (i := 37) (N := (some 60)) (v := ?_) (a' := ?_) #[true, true, true, true, true, true, true, true, true, true, true, true, true, true, true, true, true, true, true, true, true, true, true, true, true, true, true, true, true, true, true, true, true, true, true, true, true, true, false, false, false, false, false] rfl rfl (take_ofW HT_.out HW_.out (by kernel_rfl)) (fun _ _ _ h => h) (Or.inl ⟨by rfl, ?_⟩) hHeld ?_ ?_
      rotate_left
      · rintro w' ⟨s0, s1, s2, s3, s4, s5, s6, s7, s8, s9, s10, s11, s12, s13, s14⟩
        go_simp
        with_reducible rfl
      rotate_left
      · simp only [Act.put, List.setIfInBounds_toArray, List.set_cons_zero, List.set_cons_succ, i64_w, i32_w]
        rfl
      refine pure_ (i := 38) (N := (some 61)) (v := ?_) (a' := ?_) #[true, true, true, true, true, true, true, true, true, true, true, true, true, true, true, true, true, true, true, true, true, true, true, true, true, true, true, true, true, true, true, true, true, true, true, true, true, true, true, false, false, false, false] rfl rfl (any_of HT_.out (by kernel_rfl)) (fun _ _ _ h => h) (Or.inl ⟨by rfl, ?_⟩) ?_ ?_
      rotate_left
      · intro w'
        go_simp
        with_reducible rfl
      rotate_left
      · simp only [Act.put, List.setIfInBounds_toArray, List.set_cons_zero, List.set_cons_succ, i64_w, i32_w]
        rfl
      refine take_ (i := 39) (N := (some 62)) (v := ?_) (a' := ?_) #[true, true, true, true, true, true, true, true, true, true, true, true, true, true, true, true, true, true, true, true, true, true, true, true, true, true, true, true, true, true, true, true, true, true, true, true, true, true, true, true, false, false, false] rfl rfl (take_ofW HT_.out HW_.out (by kernel_rfl)) (fun _ _ _ h => h) (Or.inl ⟨by rfl, ?_⟩) hHeld ?_ ?_
      rotate_left
      · rintro w' ⟨s0, s1, s2, s3, s4, s5, s6, s7, s8, s9, s10, s11, s12, s13, s14⟩
        go_simp
        with_reducible rfl
      rotate_left
      · simp only [Act.put, List.setIfInBounds_toArray, List.set_cons_zero, List.set_cons_succ, i64_w, i32_w]
        rfl
      refine one_ (i := 40) (N := (some 63)) #[true, true, true, true, true, true, true, true, true, true, true, true, true, true, true, true, true, true, true, true, true, true, true, true, true, true, true, true, true, true, true, true, true, true, true, true, true, true, true, true, true, false, false] rfl rfl (one_of HT_.out (by kernel_rfl)) (by decide) (fun K hK => ?_)
      refine goes_ Try.func18 (by kernel_rfl) rfl #[.slice Z3 s.bd.length z3, .slice X3 s.bd.length y3] (by rfl) rfl rfl (by (try simp only [List.map_toArray, List.map_cons, List.map_nil]); first | done | rfl) ?_
      refine (sameInts_yes Z3 s.bd.length z3 X3 y3 s.bd _ (HXB.out.to bn10) (HSB.out.to bn10)).mono ?_
      rintro e wz ⟨rfl, dz⟩
      refine ⟨_, rfl, ?_⟩
      have bz := bn10.trans (Bw.drawn dz)
      refine hK.out _ _ ⟨pw_cell_below bz.out g0, pw_cell_below bz.out g1, pw_cell_below bz.out g2, pw_cell_below bz.out g3, pw_cell_below bz.out g4, pw_cell_below bz.out x0, pw_cell_below bz.out x1, pw_cell_below bz.out x2, pw_cell_below bz.out x3, pw_cell_below bz.out x4, pw_cell_below bz.out h0, pw_cell_below bz.out h1, pw_cell_below bz.out h2, pw_cell_below bz.out h3, pw_cell_below bz.out h4⟩ (fun hHeld => ?_)
      clear hK K
      refine norm_ (a' := ?_) ?_ ?_
      rotate_left
      · show Act.put _ (some 63) _ = _
        simp only [Act.put, List.setIfInBounds_toArray, List.set_cons_zero, List.set_cons_succ, i64_w, i32_w]
        rfl
      refine pure_ (i := 41) (N := (some 64)) (v := ?_) (a' := ?_) #[true, true, true, true, true, true, true, true, true, true, true, true, true, true, true, true, true, true, true, true, true, true, true, true, true, true, true, true, true, true, true, true, true, true, true, true, true, true, true, true, true, true, false] rfl rfl (any_of HT_.out (by kernel_rfl)) (fun _ _ _ h => h) (Or.inl ⟨by rfl, ?_⟩) ?_ ?_
      rotate_left
      · intro w'
        go_simp
        with_reducible rfl
      rotate_left
      · simp only [Act.put, List.setIfInBounds_toArray, List.set_cons_zero, List.set_cons_succ, i64_w, i32_w]
        rfl
      clear hHeld
      refine last_ (i := 42) (N := (some 2)) #[true, true, true, true, true, true, true, true, true, true, true, true, true, true, true, true, true, true, true, true, true, true, true, true, true, true, true, true, true, true, true, true, true, true, true, true, true, true, true, true, true, true, true] rfl rfl (one_of HT_.out (by kernel_rfl)) (by decide) (fun K hK => ?_)
      refine value_ (w1 := ?_) (v := ?_) (by rfl) rfl ?_ ?_
      rotate_left 2
      · go_simp
        constructor
        · rfl
        · rfl
      refine hK.out _ _ ?_
      clear hK K
      refine norm_ (a' := ?_) ?_ ?_
      rotate_left
      · show Act.put _ (some 2) _ = _
        simp only [Act.put, List.setIfInBounds_toArray, List.set_cons_zero, List.set_cons_succ, i64_w, i32_w]
        rfl
      refine done_ (done_of HT_.out (by kernel_rfl)) ?_
      go_wp2
      go_ret
      exact ⟨rfl, HB6.out.trans bz⟩
  · have t1 : decide (1048576 < (n : Int)) = true := decide_eq_true (by omega)
    have T1 := hid t1
    clear t1
    go_enter Try.func4, Try.ntmps4
    go_wp2_with fail
    refine (toBool (lawbig _ _ _ _) T1.out).mono ?_
    rintro e w1 ⟨rfl, rfl⟩
    go_wp2
    go_ret
    exact ⟨rfl, Bw.refl _⟩
end Go.Proofs.Ytaidbdogolhnjaa.U
