
/- The reference's CostOf and MacroStep; NextTick. -/
import Derived.Test.YtkendhkaheoinaaG24
import Derived.Test.YtkendhkaheoinaaG16
set_option linter.unusedVariables false
set_option linter.unusedSimpArgs false
namespace Go.Proofs.Ytkendhkaheoinaa.U
open Go.RowKit Go.Lib Go.Proofs.YtkendhkaheoinaaW.PrintWords

open Go.Proofs.YtkendhkaheoinaaW.PrintLast Go.Proofs.YtkendhkaheoinaaW.PrintMore
set_option maxHeartbeats 4000000 in
theorem spec_l16Cost (ro : Int) (A : Option Addr) (n c : Nat) (l : List Ce) (w : World) (r : IdR w A n l) (hl : ∀ i, i < n → 0 ≤ (gc l i).l ∧ (gc l i).l ≤ 4) (hn : n ≤ 128) (h1 : 1 ≤ n) :
    Calls Try.prog 29 #[.agg #[.int .i64 ro, .slice A n c]] w fun e w' => e = .returned (.int .i64 (costL l (n - 1))) ∧ Bw w w' := by
  have b0 := Bw.box1 w (.cells #[.int .i64 ro, .slice A n c] 26)
  have hk0 := heap_alloc_new w (.cells #[.int .i64 ro, .slice A n c] 26 (0, 0))
  have HK0 := hid hk0
  have HB0 := hid b0
  have HLV := hid hl
  clear hk0 b0 hl
  go_enter Try.func29, Try.ntmps29
  go_upto_region 3 with fail
  generalize (w.alloc (.cells #[.int .i64 ro, .slice A n c] 26)) = W1 at *
  go_loopw [3, 4] (fun v3 v4 wr => ∃ i : Nat, i ≤ n - 1 ∧ v4 = .int .i64 i ∧ v3 = .int .i64 (costL l i) ∧ Hid (Bw w wr) ∧ Hid (wr.heap[w.heap.size]? = some (.cells #[.int .i64 ro, .slice A n c] 26 (0, 0)))) (fun _ v4 _ => n - (intOf v4).toNat)
  case atStart => exact ⟨0, by omega, rfl, rfl, HB0, HK0⟩
  case round =>
    obtain ⟨i, hi, rfl, rfl, hB, hK⟩ := hrel
    have k0 : wr.cell? ⟨w.heap.size, 0, none⟩ = some (.int .i64 ro) := (blk_cell hK.out 0).trans rfl
    have k1 : wr.cell? ⟨w.heap.size, 1, none⟩ = some (.slice A n c) := (blk_cell hK.out 1).trans rfl
    have e1 : IntKind.i64.wrap ((i : Int) + 1) = (i : Int) + 1 := i64w (by omega) (by omega)
    by_cases hlt : i + 1 < n
    · have t1 : decide ((i : Int) + 1 < (n : Int)) = true := decide_eq_true (by clear e1; omega)
      have hkk := hid (show i + 1 ≤ n - 1 ∧ n - (i + 1) < n - i from ⟨by clear e1; omega, by clear e1; omega⟩)
      have hcr := costL_range l i
      have hlv1 := HLV.out i (by clear e1; omega)
      have hlv2 := HLV.out (i + 1) hlt
      have hN : costL l (i + 1) = costL l i + pow2 (faceL l i) := rfl
      have hL : faceL l i = 0 ∨ faceL l i = 1 ∨ faceL l i = 2 ∨ faceL l i = 3 ∨ faceL l i = 4 := by
        rw [faceL, bigMax]
        clear e1
        split <;> omega
      obtain ⟨F, hF⟩ : ∃ F, faceL l i = F := ⟨_, rfl⟩
      obtain ⟨C, hC⟩ : ∃ C, costL l i = C := ⟨_, rfl⟩
      rw [hF] at hN hL
      rw [hC] at hN hcr ⊢
      have HN := hid hN
      have HF := hid hF
      clear hN hF hC hlv1 hlv2
      go_wp2_with fail
      refine (spec_l05Face ro A n c l i _ (r.to hB.out) hlt).mono ?_
      rintro e w2 ⟨rfl, b2⟩
      rw [HF.out]
      have hK2 := hid ((b2.out.block _ (blk_lt hK.out)).trans hK.out)
      have hB2 := hid (hB.out.trans b2)
      clear b2 hB hK k0 k1
      rcases hL with rfl | rfl | rfl | rfl | rfl
      · have e2 : IntKind.i64.wrap (C + 1) = C + 1 := i64w (by clear e1; omega) (by clear e1; omega)
        go_wp2
        go_roundw
        case rel => exact ⟨i + 1, hkk.out.1, by go_num, by rw [HN.out]; rfl, hB2, hK2⟩
        case measure => simp [intOf]; exact hkk.out.2
      · have e2 : IntKind.i64.wrap (C + 2) = C + 2 := i64w (by clear e1; omega) (by clear e1; omega)
        go_wp2
        go_roundw
        case rel => exact ⟨i + 1, hkk.out.1, by go_num, by rw [HN.out]; rfl, hB2, hK2⟩
        case measure => simp [intOf]; exact hkk.out.2
      · have e2 : IntKind.i64.wrap (C + 4) = C + 4 := i64w (by clear e1; omega) (by clear e1; omega)
        go_wp2
        go_roundw
        case rel => exact ⟨i + 1, hkk.out.1, by go_num, by rw [HN.out]; rfl, hB2, hK2⟩
        case measure => simp [intOf]; exact hkk.out.2
      · have e2 : IntKind.i64.wrap (C + 8) = C + 8 := i64w (by clear e1; omega) (by clear e1; omega)
        go_wp2
        go_roundw
        case rel => exact ⟨i + 1, hkk.out.1, by go_num, by rw [HN.out]; rfl, hB2, hK2⟩
        case measure => simp [intOf]; exact hkk.out.2
      · have e2 : IntKind.i64.wrap (C + 16) = C + 16 := i64w (by clear e1; omega) (by clear e1; omega)
        go_wp2
        go_roundw
        case rel => exact ⟨i + 1, hkk.out.1, by go_num, by rw [HN.out]; rfl, hB2, hK2⟩
        case measure => simp [intOf]; exact hkk.out.2
    · obtain rfl : i = n - 1 := by clear e1; omega
      have t1 : decide (((n - 1 : Nat) : Int) + 1 < (n : Int)) = false := decide_eq_false (by clear e1; omega)
      go_wp2
      go_ret
      exact ⟨rfl, hB.out⟩
theorem spec_CostOf (ro : Int) (A : Option Addr) (n c : Nat) (l : List Ce) (w : World) (r : IdR w A n l) (hok : meshOk ro l = true) (hl : ∀ i, i < n → 0 ≤ (gc l i).l ∧ (gc l i).l ≤ 4) (hn : n ≤ 128) (h1 : 1 ≤ n) :
    Calls Try.prog 10 #[.agg #[.int .i64 ro, .slice A n c]] w fun e w' => e = .returned (.int .i64 (costL l (n - 1))) ∧ Bw w w' := by
  have b0 := Bw.box1 w (.cells #[.int .i64 ro, .slice A n c] 26)
  have g0 := box_cell (Bw.refl (w.alloc (.cells #[.int .i64 ro, .slice A n c] 26))) 0
  have g1 := box_cell (Bw.refl (w.alloc (.cells #[.int .i64 ro, .slice A n c] 26))) 1
  simp only [List.getElem?_toArray, List.getElem?_cons_zero, List.getElem?_cons_succ] at g0 g1
  have HOK := hid hok
  clear hok
  go_enter Try.func10, Try.ntmps10
  go_wp2_with fail
  refine (spec_MeshOk ro A n c l _ (r.to b0)).mono ?_
  rintro e w1 ⟨rfl, b1⟩
  rw [HOK.out]
  replace g0 := pw_cell_below b1.out g0
  replace g1 := pw_cell_below b1.out g1
  have HB := hid (b0.trans b1)
  clear b0 b1
  go_wp2_with fail
  refine (spec_l16Cost ro A n c l _ (r.to HB.out) hl hn h1).mono ?_
  rintro e w2 ⟨rfl, b2⟩
  go_wp2
  go_ret
  exact ⟨rfl, HB.out.trans b2⟩
theorem NextTick_at (B : Option Addr) (m d : Nat) (L : List Ev) (w : World) (r : EvR w B m L) (h0 : 0 < m) (hm : m ≤ 1000000) :
    Calls Try.prog 13 #[.slice B m d, .int .i64 0] w fun e w' => e = .returned (.int .i64 (ge L 0).q) ∧ w = w' := by
  have e1 : IntKind.i64.wrap ((m : Int) - 1) = (m : Int) - 1 := i64w (by omega) (by omega)
  have i0 : (0 : Int) < (m : Int) := by clear e1; omega
  have hr : inR 0 0 ((m : Int) - 1) = true := inR_iff.2 (by clear e1; omega)
  have HR := hid hr
  clear hr
  obtain ⟨ad, rfl, x1, x2⟩ := r.at 0 h0
  have x0 : w.cell? ad = some (.int .i64 (ge L 0).q) := by
    have : ad.add (0 * 2) = ad := by rw [Nat.zero_mul]; simp [Addr.add]
    rw [this] at x1
    exact x1
  clear x1 x2
  go_enter Try.func13, Try.ntmps13
  go_wp2_with fail
  refine (toBool (within _ _ _ _) HR.out).mono ?_
  rintro e w1 ⟨rfl, rfl⟩
  go_wp2
  go_ret
  exact ⟨rfl, rfl⟩
theorem NextTick_no (B : Option Addr) (m d : Nat) (w : World) (hm : m ≤ 1000000) :
    Calls Try.prog 13 #[.slice B m d, .int .i64 (m : Int)] w fun e w' => e = .returned (.int .i64 (-1)) ∧ w = w' := by
  have e1 : IntKind.i64.wrap ((m : Int) - 1) = (m : Int) - 1 := i64w (by omega) (by omega)
  have hr : inR (m : Int) 0 ((m : Int) - 1) = false := by
    cases h : inR (m : Int) 0 ((m : Int) - 1) with
    | false => rfl
    | true => have := inR_iff.1 h; clear e1; omega
  have HR := hid hr
  clear hr
  go_enter Try.func13, Try.ntmps13
  go_wp2_with fail
  refine (toBool (within _ _ _ _) HR.out).mono ?_
  rintro e w1 ⟨rfl, rfl⟩
  go_wp2
  go_ret
  exact ⟨rfl, rfl⟩
/-- a state read with its sizes written out -/
theorem StR_m {w : World} {x : Value} {s z : Sta} {m : Nat} (h : StR w x z) (e : z.ro = s.ro ∧ z.lv.length = m ∧ z.ms.length = m ∧ z.ts.length = m ∧ z.bd.length = s.bd.length) :
    ∃ (A0 : Option Addr) (c0 : Nat) (A1 : Option Addr) (c1 : Nat) (A2 : Option Addr) (c2 : Nat) (A3 : Option Addr) (c3 : Nat), x = .agg #[.int .i64 s.ro, .slice A0 m c0, .slice A1 m c1, .slice A2 m c2, .slice A3 s.bd.length c3] ∧ RI w A1 m z.ms := by
  obtain ⟨A0, c0, A1, c1, A2, c2, A3, c3, rfl, r0, r1, r2, r3⟩ := h
  obtain ⟨e0, e1, e2, e3, e4⟩ := e
  rw [e0, e1, e2, e3, e4]
  rw [e2] at r1
  exact ⟨_, _, _, _, _, _, _, _, rfl, r1⟩

set_option maxHeartbeats 8000000 in
set_option maxRecDepth 100000 in
theorem spec_MacroStep (x : Value) (s : Sta) (w : World) (hx : StR w x s) (hok : staOk s.ro s.lv s.ms s.ts s.bd = true) :
    Calls Try.prog 12 #[x] w fun e w' => ∃ v, e = .returned v ∧ StO w' w.heap.size w'.heap.size v (macS s 16) ∧ Bw w w' := by
  have hs := StG.of hok
  have hmx := hs.f.n
  have hx0 := hx
  obtain ⟨m, hm⟩ : ∃ m, s.lv.length = m := ⟨_, rfl⟩
  have HL := hid (show s.lv.length ≤ 1000000 ∧ s.ms.length ≤ 1000000000 ∧ s.ts.length ≤ 1000000000 ∧ s.bd.length ≤ 1000000000 from ⟨by omega, by rw [hs.f.ms]; omega, by rw [hs.f.ts]; omega, by have := hs.f.bd; omega⟩)
  have HLEN := hid (fun k => by have h := macS_len hok k; rw [hm] at h; exact (show (macS s k).ro = s.ro ∧ (macS s k).lv.length = m ∧ (macS s k).ms.length = m ∧ (macS s k).ts.length = m ∧ (macS s k).bd.length = s.bd.length from ⟨(macS_same s k).1, h⟩))
  obtain ⟨A0, c0, A1, c1, A2, c2, A3, c3, rfl, r0, r1, r2, r3⟩ := hx
  have hms : s.ms.length = m := by rw [hs.f.ms, hm]
  have hts : s.ts.length = m := by rw [hs.f.ts, hm]
  rw [hm, hms, hts] at hx0 ⊢
  rw [hm] at r0
  rw [hms] at r1
  rw [hts] at r2
  have HOK := hid hok
  have b0 := (Bw.box1 w (.cells #[.int .i64 s.ro, .slice A0 m c0, .slice A1 m c1, .slice A2 m c2, .slice A3 s.bd.length c3] 29)).alloc (.cells #[.int .i64 0, .slice none 0 0, .slice none 0 0, .slice none 0 0, .slice none 0 0] 29)
  have g0 := box_cell ((Bw.refl (w.alloc (.cells #[.int .i64 s.ro, .slice A0 m c0, .slice A1 m c1, .slice A2 m c2, .slice A3 s.bd.length c3] 29))).alloc (.cells #[.int .i64 0, .slice none 0 0, .slice none 0 0, .slice none 0 0, .slice none 0 0] 29)) 0
  have g1 := box_cell ((Bw.refl (w.alloc (.cells #[.int .i64 s.ro, .slice A0 m c0, .slice A1 m c1, .slice A2 m c2, .slice A3 s.bd.length c3] 29))).alloc (.cells #[.int .i64 0, .slice none 0 0, .slice none 0 0, .slice none 0 0, .slice none 0 0] 29)) 1
  have g2 := box_cell ((Bw.refl (w.alloc (.cells #[.int .i64 s.ro, .slice A0 m c0, .slice A1 m c1, .slice A2 m c2, .slice A3 s.bd.length c3] 29))).alloc (.cells #[.int .i64 0, .slice none 0 0, .slice none 0 0, .slice none 0 0, .slice none 0 0] 29)) 2
  have g3 := box_cell ((Bw.refl (w.alloc (.cells #[.int .i64 s.ro, .slice A0 m c0, .slice A1 m c1, .slice A2 m c2, .slice A3 s.bd.length c3] 29))).alloc (.cells #[.int .i64 0, .slice none 0 0, .slice none 0 0, .slice none 0 0, .slice none 0 0] 29)) 3
  have g4 := box_cell ((Bw.refl (w.alloc (.cells #[.int .i64 s.ro, .slice A0 m c0, .slice A1 m c1, .slice A2 m c2, .slice A3 s.bd.length c3] 29))).alloc (.cells #[.int .i64 0, .slice none 0 0, .slice none 0 0, .slice none 0 0, .slice none 0 0] 29)) 4
  simp only [List.getElem?_toArray, List.getElem?_cons_zero, List.getElem?_cons_succ] at g0 g1 g2 g3 g4
  have hR := heap_alloc_new (w.alloc (.cells #[.int .i64 s.ro, .slice A0 m c0, .slice A1 m c1, .slice A2 m c2, .slice A3 s.bd.length c3] 29)) (.cells #[.int .i64 0, .slice none 0 0, .slice none 0 0, .slice none 0 0, .slice none 0 0] 29 (0, 0))
  rw [show (w.alloc (.cells #[.int .i64 s.ro, .slice A0 m c0, .slice A1 m c1, .slice A2 m c2, .slice A3 s.bd.length c3] 29)).heap.size = w.heap.size + 1 by simp] at hR
  have hC := heap_alloc_new w (.cells #[.int .i64 s.ro, .slice A0 m c0, .slice A1 m c1, .slice A2 m c2, .slice A3 s.bd.length c3] 29 (0, 0))
  have HC := hid (((Bw.refl (w.alloc (.cells #[.int .i64 s.ro, .slice A0 m c0, .slice A1 m c1, .slice A2 m c2, .slice A3 s.bd.length c3] 29))).alloc (.cells #[.int .i64 0, .slice none 0 0, .slice none 0 0, .slice none 0 0, .slice none 0 0] 29)).out.block _ (blk_lt hC) |>.trans hC)
  have HR := hid hR
  clear hR hC hok hm hms hts
  go_enter Try.func12, Try.ntmps12
  go_upto_region 1 with fail
  generalize ((w.alloc (.cells #[.int .i64 s.ro, .slice A0 m c0, .slice A1 m c1, .slice A2 m c2, .slice A3 s.bd.length c3] 29)).alloc (.cells #[.int .i64 0, .slice none 0 0, .slice none 0 0, .slice none 0 0, .slice none 0 0] 29)) = W1 at *
  go_wp2_with fail
  refine (spec_l07Copy _ s _ (hx0.to b0) HL.out.1 HL.out.2.1 HL.out.2.2.1 HL.out.2.2.2).mono ?_
  rintro e w2 ⟨v, rfl, hO, b2⟩
  obtain ⟨Y0, v0, Y1, v1, Y2, v2, Y3, v3, rfl, _⟩ := StR_m hO.r (HLEN.out 0)
  have bx := Bw.box1 w2 (.cells #[.int .i64 s.ro, .slice Y0 m v0, .slice Y1 m v1, .slice Y2 m v2, .slice Y3 s.bd.length v3] 29)
  have HF := heap_alloc_new w2 (.cells #[.int .i64 s.ro, .slice Y0 m v0, .slice Y1 m v1, .slice Y2 m v2, .slice Y3 s.bd.length v3] 29 (0, 0))
  have HO := hO.to bx
  have HB1 := b2.trans bx
  have hw1 : w.heap.size + 1 < W1.heap.size := blk_lt HR.out
  have hb2 := b2.size
  have HRR := hid ((HB1.out.block _ (blk_lt HR.out)).trans HR.out)
  have HCC := hid ((HB1.out.block _ (blk_lt HC.out)).trans HC.out)
  have HK := hid (b0.trans HB1)
  have hYW : w2.heap.size + 1 ≤ (w2.alloc (.cells #[.int .i64 s.ro, .slice Y0 m v0, .slice Y1 m v1, .slice Y2 m v2, .slice Y3 s.bd.length v3] 29)).heap.size := by simp
  have HYW := hid (show w2.heap.size + 1 ≤ (w2.alloc (.cells #[.int .i64 s.ro, .slice Y0 m v0, .slice Y1 m v1, .slice Y2 m v2, .slice Y3 s.bd.length v3] 29)).heap.size ∧ w2.heap.size ≤ (w2.alloc (.cells #[.int .i64 s.ro, .slice Y0 m v0, .slice Y1 m v1, .slice Y2 m v2, .slice Y3 s.bd.length v3] 29)).heap.size from ⟨hYW, by omega⟩)
  have HOH := hid HO
  have HFH := hid HF
  clear hO HO b2 bx HB1 HF g0 g1 g2 g3 g4
  go_upto_region 3 with fail
  generalize (w2.alloc (.cells #[.int .i64 s.ro, .slice Y0 m v0, .slice Y1 m v1, .slice Y2 m v2, .slice Y3 s.bd.length v3] 29)) = w5 at *
  generalize w2.heap.size = Y at *
  have HO := HOH.out
  have HF := HFH.out
  have HST0 := hid (show ∃ (lo hi : Nat) (Y0 : Option Addr) (v0 : Nat) (Y1 : Option Addr) (v1 : Nat) (Y2 : Option Addr) (v2 : Nat) (Y3 : Option Addr) (v3 : Nat), w5.heap[Y]? = some (.cells #[.int .i64 s.ro, .slice Y0 m v0, .slice Y1 m v1, .slice Y2 m v2, .slice Y3 s.bd.length v3] 29 (0, 0)) ∧ w.heap.size + 2 ≤ lo ∧ hi ≤ w5.heap.size ∧ StO w5 lo hi (.agg #[.int .i64 s.ro, .slice Y0 m v0, .slice Y1 m v1, .slice Y2 m v2, .slice Y3 s.bd.length v3]) (macS s 0) ∧ (hi ≤ Y ∨ Y < lo) from ⟨_, _, _, _, _, _, _, _, _, _, HF, by omega, HYW.out.2, HO, Or.inl (by omega)⟩)
  clear HO HF
  go_loopw [4] (fun v4 wr => ∃ k : Nat, k ≤ 16 ∧ v4 = .int .i64 k ∧ Hid (∃ (lo hi : Nat) (Y0 : Option Addr) (v0 : Nat) (Y1 : Option Addr) (v1 : Nat) (Y2 : Option Addr) (v2 : Nat) (Y3 : Option Addr) (v3 : Nat), wr.heap[Y]? = some (.cells #[.int .i64 s.ro, .slice Y0 m v0, .slice Y1 m v1, .slice Y2 m v2, .slice Y3 s.bd.length v3] 29 (0, 0)) ∧ w.heap.size + 2 ≤ lo ∧ hi ≤ wr.heap.size ∧ StO wr lo hi (.agg #[.int .i64 s.ro, .slice Y0 m v0, .slice Y1 m v1, .slice Y2 m v2, .slice Y3 s.bd.length v3]) (macS s k) ∧ (hi ≤ Y ∨ Y < lo)) ∧ Hid (Uw w5 wr Y Y)) (fun v4 _ => 16 - (intOf v4).toNat)
  case atStart => exact ⟨0, by omega, rfl, HST0, hid (Uw.refl _ _ _)⟩
  case round =>
    obtain ⟨k, hk, rfl, hST, hU⟩ := hrel
    have hUo := hU.out
    have hCr := hUo.blk HCC.out (by omega) (by omega)
    have q0 := (blk_cell hCr 0).trans (show _ = some (Value.int .i64 s.ro) from rfl)
    have q1 := (blk_cell hCr 1).trans (show _ = some (Value.slice A0 m c0) from rfl)
    have q2 := (blk_cell hCr 2).trans (show _ = some (Value.slice A1 m c1) from rfl)
    have q3 := (blk_cell hCr 3).trans (show _ = some (Value.slice A2 m c2) from rfl)
    have q4 := (blk_cell hCr 4).trans (show _ = some (Value.slice A3 s.bd.length c3) from rfl)
    obtain ⟨lo, hi, Y0, v0, Y1, v1, Y2, v2, Y3, v3, hY, hlo, hhi, hS, hd⟩ := hST.out
    have k0 := (blk_cell hY 0).trans (show _ = some (Value.int .i64 s.ro) from rfl)
    have k1 := (blk_cell hY 1).trans (show _ = some (Value.slice Y0 m v0) from rfl)
    have k2 := (blk_cell hY 2).trans (show _ = some (Value.slice Y1 m v1) from rfl)
    have k3 := (blk_cell hY 3).trans (show _ = some (Value.slice Y2 m v2) from rfl)
    have k4 := (blk_cell hY 4).trans (show _ = some (Value.slice Y3 s.bd.length v3) from rfl)
    have HS := hid hS
    have HY := hid hY
    have HLH := hid (show w.heap.size + 2 ≤ lo ∧ hi ≤ wr.heap.size ∧ (hi ≤ Y ∨ Y < lo) from ⟨hlo, hhi, hd⟩)
    have HUB := hid (hUo.to HK.out (by omega) (by omega))
    clear hST hS hUo hlo hhi hd hCr
    by_cases hlt : k < 16
    · have t1 : decide ((k : Int) < 16) = true := decide_eq_true (by omega)
      have t2 : decide (k < 16) = true := decide_eq_true (by omega)
      have e1 : IntKind.i64.wrap ((k : Int) + 1) = (k : Int) + 1 := i64w (by omega) (by omega)
      have hkk := hid (show k + 1 ≤ 16 ∧ 16 - (k + 1) < 16 - k by clear e1; omega)
      go_wp2_with fail
      refine (spec_StateOk s.ro A0 _ c0 s.lv A1 _ c1 s.ms A2 _ c2 s.ts A3 _ c3 s.bd _ (r0.to HUB.out) (r1.to HUB.out) (r2.to HUB.out) (r3.to HUB.out)).mono ?_
      rintro e w6 ⟨rfl, b6⟩
      rw [HOK.out]
      have HY6 := hid ((b6.out.block _ (blk_lt HY.out)).trans HY.out)
      have hU6 := hid (hU.out.bw b6)
      have HS6 := hid (HS.out.to b6)
      have HLH6 := hid (show w.heap.size + 2 ≤ lo ∧ hi ≤ w6.heap.size ∧ (hi ≤ Y ∨ Y < lo) from ⟨HLH.out.1, Nat.le_trans HLH.out.2.1 b6.size, HLH.out.2.2⟩)
      replace k0 := pw_cell_below b6.out k0
      replace q0 := pw_cell_below b6.out q0
      replace k1 := pw_cell_below b6.out k1
      replace q1 := pw_cell_below b6.out q1
      replace k2 := pw_cell_below b6.out k2
      replace q2 := pw_cell_below b6.out q2
      replace k3 := pw_cell_below b6.out k3
      replace q3 := pw_cell_below b6.out q3
      replace k4 := pw_cell_below b6.out k4
      replace q4 := pw_cell_below b6.out q4
      have HBB6 := hid (HUB.out.trans b6)
      clear b6 HY hU HS HLH hY q0 q1 q2 q3 q4
      go_wp2_with fail
      refine (spec_l11Step _ (macS s k) (k : Int) _ HS6.out.r (StG.of (macS_ok HOK.out k)) (by clear e1; omega)).mono ?_
      rintro e w7 ⟨v, rfl, hN, b6⟩
      obtain ⟨N0, n0, N1, n1, N2, n2, N3, n3, rfl, _⟩ := StR_m hN.r (HLEN.out (k + 1))
      have hY6 := (b6.out.block _ (blk_lt HY6.out)).trans HY6.out
      have hlt6 := blk_lt HY6.out
      have hU6 := hU6.out.bw b6
      have hz6 := b6.size
      have hzw := HBB6.out.size
      have s0 := (blk_cell hY6 0).trans (show _ = some (Value.int .i64 s.ro) from rfl)
      have f0 := blk_frozen hY6 0
      have s1 := (blk_cell hY6 1).trans (show _ = some (Value.slice Y0 m v0) from rfl)
      have f1 := blk_frozen hY6 1
      have s2 := (blk_cell hY6 2).trans (show _ = some (Value.slice Y1 m v1) from rfl)
      have f2 := blk_frozen hY6 2
      have s3 := (blk_cell hY6 3).trans (show _ = some (Value.slice Y2 m v2) from rfl)
      have f3 := blk_frozen hY6 3
      have s4 := (blk_cell hY6 4).trans (show _ = some (Value.slice Y3 s.bd.length v3) from rfl)
      have f4 := blk_frozen hY6 4
      have hwi : Wi w7 (((((w7.setCell ⟨Y, 0, none⟩ (.int .i64 s.ro)).setCell ⟨Y, 1, none⟩ (.slice N0 m n0)).setCell ⟨Y, 2, none⟩ (.slice N1 m n1)).setCell ⟨Y, 3, none⟩ (.slice N2 m n2)).setCell ⟨Y, 4, none⟩ (.slice N3 s.bd.length n3)) Y (Y + 1) := (((((Wi.refl _ _ _).trans (Wi.set _ _ 0 (.int .i64 s.ro))).trans (Wi.set _ _ 1 (.slice N0 m n0))).trans (Wi.set _ _ 2 (.slice N1 m n1))).trans (Wi.set _ _ 3 (.slice N2 m n2))).trans (Wi.set _ _ 4 (.slice N3 s.bd.length n3))
      have hzz : (((((w7.setCell ⟨Y, 0, none⟩ (.int .i64 s.ro)).setCell ⟨Y, 1, none⟩ (.slice N0 m n0)).setCell ⟨Y, 2, none⟩ (.slice N1 m n1)).setCell ⟨Y, 3, none⟩ (.slice N2 m n2)).setCell ⟨Y, 4, none⟩ (.slice N3 s.bd.length n3)).heap.size = w7.heap.size := by simp [World.setCell]
      have hST2 := hid (show ∃ (lo hi : Nat) (Y0 : Option Addr) (v0 : Nat) (Y1 : Option Addr) (v1 : Nat) (Y2 : Option Addr) (v2 : Nat) (Y3 : Option Addr) (v3 : Nat), (((((w7.setCell ⟨Y, 0, none⟩ (.int .i64 s.ro)).setCell ⟨Y, 1, none⟩ (.slice N0 m n0)).setCell ⟨Y, 2, none⟩ (.slice N1 m n1)).setCell ⟨Y, 3, none⟩ (.slice N2 m n2)).setCell ⟨Y, 4, none⟩ (.slice N3 s.bd.length n3)).heap[Y]? = some (.cells #[.int .i64 s.ro, .slice Y0 m v0, .slice Y1 m v1, .slice Y2 m v2, .slice Y3 s.bd.length v3] 29 (0, 0)) ∧ w.heap.size + 2 ≤ lo ∧ hi ≤ (((((w7.setCell ⟨Y, 0, none⟩ (.int .i64 s.ro)).setCell ⟨Y, 1, none⟩ (.slice N0 m n0)).setCell ⟨Y, 2, none⟩ (.slice N1 m n1)).setCell ⟨Y, 3, none⟩ (.slice N2 m n2)).setCell ⟨Y, 4, none⟩ (.slice N3 s.bd.length n3)).heap.size ∧ StO (((((w7.setCell ⟨Y, 0, none⟩ (.int .i64 s.ro)).setCell ⟨Y, 1, none⟩ (.slice N0 m n0)).setCell ⟨Y, 2, none⟩ (.slice N1 m n1)).setCell ⟨Y, 3, none⟩ (.slice N2 m n2)).setCell ⟨Y, 4, none⟩ (.slice N3 s.bd.length n3)) lo hi (.agg #[.int .i64 s.ro, .slice Y0 m v0, .slice Y1 m v1, .slice Y2 m v2, .slice Y3 s.bd.length v3]) (macS s (k + 1)) ∧ (hi ≤ Y ∨ Y < lo) from ⟨_, _, N0, n0, N1, n1, N2, n2, N3, n3, (blk_set (blk_set (blk_set (blk_set (blk_set hY6 0 (.int .i64 s.ro)) 1 (.slice N0 m n0)) 2 (.slice N1 m n1)) 3 (.slice N2 m n2)) 4 (.slice N3 s.bd.length n3)), by clear e1; omega, by rw [hzz]; exact Nat.le_refl _, hN.wi hwi (Or.inr (by clear e1; omega)), Or.inr (by clear e1; omega)⟩)
      have hU2 := hid (show Uw w5 (((((w7.setCell ⟨Y, 0, none⟩ (.int .i64 s.ro)).setCell ⟨Y, 1, none⟩ (.slice N0 m n0)).setCell ⟨Y, 2, none⟩ (.slice N1 m n1)).setCell ⟨Y, 3, none⟩ (.slice N2 m n2)).setCell ⟨Y, 4, none⟩ (.slice N3 s.bd.length n3)) Y Y from (((((hU6.set Y 0 (.int .i64 s.ro) (Or.inl rfl)).set Y 1 (.slice N0 m n0) (Or.inl rfl)).set Y 2 (.slice N1 m n1) (Or.inl rfl)).set Y 3 (.slice N2 m n2) (Or.inl rfl)).set Y 4 (.slice N3 s.bd.length n3) (Or.inl rfl)))
      clear hN hwi hU6 hY6 b6 HS6 HY6 HLH6 HBB6 hzz k0 k1 k2 k3 k4
      go_wp2
      go_roundw
      case rel => exact ⟨k + 1, hkk.out.1, by go_num, hST2, hU2⟩
      case measure => simp [intOf]; clear e1; omega
    · obtain rfl : k = 16 := by omega
      have t1 : decide (((16 : Nat) : Int) < 16) = false := decide_eq_false (by omega)
      have z6 := hU.out
      have hk6 := HY.out
      have hO6 := HS.out
      have hR6 := z6.blk HRR.out (by omega) (by omega)
      have hB6 := HUB.out
      have hlh := HLH.out
      have hsz6 := z6.size
      clear z6 hU HS HY HLH HUB k0 k1 k2 k3 k4 q0 q1 q2 q3 q4 hY
      generalize wr = w6 at *
      have p0 := (blk_cell hk6 0).trans (show _ = some (Value.int .i64 s.ro) from rfl)
      have s0 := (blk_cell hR6 0).trans (show _ = some (Value.int .i64 0) from rfl)
      have f0 := blk_frozen hR6 0
      have p1 := (blk_cell hk6 1).trans (show _ = some (Value.slice Y0 m v0) from rfl)
      have s1 := (blk_cell hR6 1).trans (show _ = some (Value.slice none 0 0) from rfl)
      have f1 := blk_frozen hR6 1
      have p2 := (blk_cell hk6 2).trans (show _ = some (Value.slice Y1 m v1) from rfl)
      have s2 := (blk_cell hR6 2).trans (show _ = some (Value.slice none 0 0) from rfl)
      have f2 := blk_frozen hR6 2
      have p3 := (blk_cell hk6 3).trans (show _ = some (Value.slice Y2 m v2) from rfl)
      have s3 := (blk_cell hR6 3).trans (show _ = some (Value.slice none 0 0) from rfl)
      have f3 := blk_frozen hR6 3
      have p4 := (blk_cell hk6 4).trans (show _ = some (Value.slice Y3 s.bd.length v3) from rfl)
      have s4 := (blk_cell hR6 4).trans (show _ = some (Value.slice none 0 0) from rfl)
      have f4 := blk_frozen hR6 4
      have hwi : Wi w6 (((((w6.setCell ⟨w.heap.size + 1, 0, none⟩ (.int .i64 s.ro)).setCell ⟨w.heap.size + 1, 1, none⟩ (.slice Y0 m v0)).setCell ⟨w.heap.size + 1, 2, none⟩ (.slice Y1 m v1)).setCell ⟨w.heap.size + 1, 3, none⟩ (.slice Y2 m v2)).setCell ⟨w.heap.size + 1, 4, none⟩ (.slice Y3 s.bd.length v3)) (w.heap.size + 1) (w.heap.size + 1 + 1) := (((((Wi.refl _ _ _).trans (Wi.set _ _ 0 (.int .i64 s.ro))).trans (Wi.set _ _ 1 (.slice Y0 m v0))).trans (Wi.set _ _ 2 (.slice Y1 m v1))).trans (Wi.set _ _ 3 (.slice Y2 m v2))).trans (Wi.set _ _ 4 (.slice Y3 s.bd.length v3))
      have HFF := hid (show (((((w6.setCell ⟨w.heap.size + 1, 0, none⟩ (.int .i64 s.ro)).setCell ⟨w.heap.size + 1, 1, none⟩ (.slice Y0 m v0)).setCell ⟨w.heap.size + 1, 2, none⟩ (.slice Y1 m v1)).setCell ⟨w.heap.size + 1, 3, none⟩ (.slice Y2 m v2)).setCell ⟨w.heap.size + 1, 4, none⟩ (.slice Y3 s.bd.length v3)).heap[w.heap.size + 1]? = some (.cells #[.int .i64 s.ro, .slice Y0 m v0, .slice Y1 m v1, .slice Y2 m v2, .slice Y3 s.bd.length v3] 29 (0, 0)) from (blk_set (blk_set (blk_set (blk_set (blk_set hR6 0 (.int .i64 s.ro)) 1 (.slice Y0 m v0)) 2 (.slice Y1 m v1)) 3 (.slice Y2 m v2)) 4 (.slice Y3 s.bd.length v3)))
      have HST := hid (StO_mono (hO6.wi hwi (Or.inr (by have := hlh.1; omega))) (show w.heap.size ≤ lo by have := hlh.1; omega) (show hi ≤ (((((w6.setCell ⟨w.heap.size + 1, 0, none⟩ (.int .i64 s.ro)).setCell ⟨w.heap.size + 1, 1, none⟩ (.slice Y0 m v0)).setCell ⟨w.heap.size + 1, 2, none⟩ (.slice Y1 m v1)).setCell ⟨w.heap.size + 1, 3, none⟩ (.slice Y2 m v2)).setCell ⟨w.heap.size + 1, 4, none⟩ (.slice Y3 s.bd.length v3)).heap.size by have := hwi.size; omega))
      have HBF := hid (hB6.then_wi hwi (by omega))
      clear hk6 hO6 hR6 hB6 hwi
      go_wp2
      refine bodyPost_ret (results_cell_row rfl _ _ (w.heap.size + 1) 29 #[.int .i64 s.ro, .slice Y0 m v0, .slice Y1 m v1, .slice Y2 m v2, .slice Y3 s.bd.length v3] (0, 0) _ rfl HFF.out Try.underlying29 rfl (by kernel_rfl)) rfl ?_
      exact ⟨_, rfl, HST.out, HBF.out⟩
end Go.Proofs.Ytkendhkaheoinaa.U
