
/- The law FnJoined returns true at all codes. -/
import Derived.Test.YtaemkneppphkmaaG15
import Derived.Test.YtaemkneppphkmaaG16
import Derived.Test.YtaemkneppphkmaaG10
import Derived.Test.YtaemkneppphkmaaG13
import Derived.Test.YtaemkneppphkmaaG8
import Derived.Test.YtaemkneppphkmaaG12
set_option linter.unusedVariables false
set_option linter.unusedSimpArgs false
namespace Go.Proofs.Ytaemkneppphkmaa.U
open Go.RowKit Go.Lib Go.Proofs.YtaemkneppphkmaaW.PrintWords
open Go.Proofs.YtaemkneppphkmaaW.PrintLast Go.Proofs.YtaemkneppphkmaaW.PrintMore
theorem Rw.rdI' {w : World} {lo hi n c : Nat} {A : Option Addr} {F : List Int} (h : Rw w lo hi 3 1 (.slice A n c) n F) : RI w A n F := (FO.fr h.o).ri
theorem partV_small (s : Sta) (p q : Nat) (hs : StF s) : (partV s p q).lf.length ≤ 400 ∧ (partV s p q).ms.length ≤ 128 ∧ (partV s p q).ts.length ≤ 128 ∧ (partV s p q).bd.length ≤ 8 ∧ (partV s p q).gh.length ≤ 8 := by
 have h1 := hs.n
 have h2 := hs.ms
 have h3 := hs.ts
 have h4 := hs.bd
 have e1 : (partV s p q).lf.length = ((s.lv.take q).drop p).length * 3 := idF_length _
 have e2 : (partV s p q).gh.length = 8 := ghosts_len s p q
 simp only [partV, List.length_drop, List.length_take] at *
 omega
theorem parts_all (s : Sta) (cuts : List Int) (hs : StF s) (i : Nat) (hi : i < (parts s cuts).length) : (gv (parts s cuts) i).lf.length ≤ 400 ∧ (gv (parts s cuts) i).ms.length ≤ 128 ∧ (gv (parts s cuts) i).ts.length ≤ 128 ∧ (gv (parts s cuts) i).bd.length ≤ 8 ∧ (gv (parts s cuts) i).gh.length ≤ 8 := by
 rw [parts_at s cuts i (by rwa [parts_length] at hi)]
 exact partV_small s _ _ hs
theorem parts_short (s : Sta) (cuts : List Int) (hs : StF s) : Short (parts s cuts) := ⟨fun i hi => by
 have := parts_all s cuts hs i hi
 omega⟩
theorem parts_offs (s : Sta) (cuts : List Int) (hs : StF s) : ∀ n, n ≤ (parts s cuts).length → offs (parts s cuts) n ≤ 1000 * n
 | 0, _ => by simp [offs]
 | n + 1, h => by
  have ih := parts_offs s cuts hs n (by omega)
  have := parts_all s cuts hs n (by omega)
  rw [offs, msz]
  omega
theorem parts_most (s : Sta) (cuts : List Int) {n : Int} (hc : cutsOk n cuts = true) : (parts s cuts).length ≤ 16 := by
 have := (cutsOk_facts hc).1
 rw [parts_length]
 omega
theorem parts_szTo' (s : Sta) (cuts : List Int) (hs : StF s) : ∀ n, n ≤ (parts s cuts).length → szTo (parts s cuts) n ≤ 1000 * n
 | 0, _ => by simp [szTo]
 | n + 1, h => by
  have ih := parts_szTo' s cuts hs n (by omega)
  have := parts_all s cuts hs n (by omega)
  rw [szTo, vsz]
  omega
theorem stv_parts {s : Sta} {cuts : List Int} (hs : staOk s.ro s.lv s.ms s.ts s.bd = true) (hc : cutsOk (s.lv.length : Int) cuts = true) (t : Int) : stvOk (parts s cuts) = true ∧ stvL (parts s cuts) t = parts (tickS s t) cuts := by
 have h1 := join_parts hs hc
 have h2 := (cutsOk_facts hc).1
 have hok : stvOk (parts s cuts) = true := by rw [stvOk, h1.1, parts_length]; simp; omega
 refine ⟨hok, ?_⟩
 rw [stvL, if_pos hok, h1.2, parts_length, cutL_parts hc]
theorem cuts4 {n : Nat} {a b : Int} (h0 : 0 ≤ a) (h1 : a ≤ b) (h2 : b ≤ n) : cutsOk (n : Int) [0, a, b, (n : Int)] = true := by
 simp only [cutsOk, Bool.and_eq_true, inR_iff, beq_iff_eq, ascB_iff]
 refine ⟨⟨⟨by simp, rfl⟩, rfl⟩, fun j h3 h4 => ?_⟩
 simp only [List.length_cons, List.length_nil] at h4
 obtain rfl | rfl | rfl : j = 1 ∨ j = 2 ∨ j = 3 := by omega
 ·exact h0
 ·exact h1
 ·exact h2
theorem rem_nat {p m : Int} (hp : 0 ≤ p) (hm : 0 < m) : ∃ r, Int.tmod p m = r ∧ 0 ≤ r ∧ r < m := ⟨_, rfl, by
 rw [Int.tmod_eq_emod_of_nonneg hp]
 exact Int.emod_nonneg p (by omega), by
 rw [Int.tmod_eq_emod_of_nonneg hp]
 exact Int.emod_lt_of_pos p hm⟩
theorem impl_SplitState' (x : Value) (s : Sta) (C : Option Addr) (n c : Nat) (cuts : List Int) (F : List Vf) (m : Nat) (w : World) (hx : StC w x s) (r : RI w C n cuts) (hF : splitS s cuts = F) (hm : F.length = m) :
  Calls Try.prog 20 #[x, .slice C n c] w fun e w' => ∃ (z : Nat) (X : Option Addr) (y : Nat), z = w.heap.size ∧ e = .returned (.slice X m y) ∧ VwO w' z w'.heap.size (.slice X m y) m F ∧ Bw w w' := by
 refine (impl_SplitState x s C n c cuts w hx r).mono ?_
 rintro e w' ⟨v, rfl, hV, b⟩
 rw [hF, hm] at hV
 obtain ⟨X, y, rfl, _⟩ := hV.reads
 exact ⟨_, _, _, rfl, rfl, hV, b⟩
open Go.Proofs.YtaemkneppphkmaaW.PrintLast Go.Proofs.YtaemkneppphkmaaW.PrintMore
set_option maxHeartbeats 8000000 in
set_option maxRecDepth 100000 in
theorem law_Joined (A : Option Addr) (n c : Nat) (l : List Int) (w : World) (r : ReadsInt w .u8 A n l) (wf : ∀ x ∈ l, 0 ≤ x ∧ x ≤ 255) :
  Calls Try.prog 6 #[.slice A n c] w fun e w' => e = .returned (.bool true) ∧ Bw w w' := by
 have WF := hid wf
 clear wf
 by_cases hb : n ≤ 1048576
 ·have t1 : decide (1048576 < (n : Int)) = false := decide_eq_false (by omega)
  have T1 := hid t1
  clear t1
  go_enter Try.func6, Try.ntmps6
  go_wp2_with fail
  refine (toBool (lawbig _ _ _ _) T1.out).mono ?_
  rintro e w1 ⟨rfl, rfl⟩
  go_wp2_with fail
  refine (DrawState A n c l _ r WF.out hb).mono ?_
  rintro e w1 ⟨x, s, rfl, hs, hO, b1⟩
  obtain ⟨X0, y0, X1, y1, X2, y2, X3, y3, rfl, q0, q1, q2, q3⟩ := hO.r
  obtain ⟨m, hm⟩ : ∃ m, s.lv.length = m := ⟨_, rfl⟩
  have hms : s.ms.length = m := by rw [hs.cs.lm, hm]
  have hts : s.ts.length = m := by rw [hs.cs.lt, hm]
  have hm1 : 1 ≤ m ∧ m ≤ 48 := by
   have h1 := hs.ok
   simp only [staOk, isBal, Bool.and_eq_true] at h1
   have := meshOk_len h1.1.1
   have := hs.n
   omega
  rw [hms, hts, hm] at hO ⊢
  have HS := hid hs
  have HM := hid (show s.lv.length = m ∧ s.ms.length = m ∧ s.ts.length = m from ⟨hm, hms, hts⟩)
  clear hs hm hms hts q0 q1 q2 q3
  have b2 := Bw.box1 w1 (.cells #[.int .i64 s.ro, .slice X0 m y0, .slice X1 m y1, .slice X2 m y2, .slice X3 s.bd.length y3] 36)
  have g0 := box_cell (Bw.refl (w1.alloc (.cells #[.int .i64 s.ro, .slice X0 m y0, .slice X1 m y1, .slice X2 m y2, .slice X3 s.bd.length y3] 36))) 0
  have g1 := box_cell (Bw.refl (w1.alloc (.cells #[.int .i64 s.ro, .slice X0 m y0, .slice X1 m y1, .slice X2 m y2, .slice X3 s.bd.length y3] 36))) 1
  have g2 := box_cell (Bw.refl (w1.alloc (.cells #[.int .i64 s.ro, .slice X0 m y0, .slice X1 m y1, .slice X2 m y2, .slice X3 s.bd.length y3] 36))) 2
  have g3 := box_cell (Bw.refl (w1.alloc (.cells #[.int .i64 s.ro, .slice X0 m y0, .slice X1 m y1, .slice X2 m y2, .slice X3 s.bd.length y3] 36))) 3
  have g4 := box_cell (Bw.refl (w1.alloc (.cells #[.int .i64 s.ro, .slice X0 m y0, .slice X1 m y1, .slice X2 m y2, .slice X3 s.bd.length y3] 36))) 4
  simp only [List.getElem?_toArray, List.getElem?_cons_zero, List.getElem?_cons_succ] at g0 g1 g2 g3 g4
  have hB := b1.trans b2
  replace hO := hO.to b2
  go_wp2_with fail
  generalize (w1.alloc (.cells #[.int .i64 s.ro, .slice X0 m y0, .slice X1 m y1, .slice X2 m y2, .slice X3 s.bd.length y3] 36)) = w2 at *
  refine (DrawPlaces A n c l _ (r.below hB.out) WF.out hb).mono ?_
  rintro e w3 ⟨P, m2, pc, ps, rfl, hp, ⟨rfl, hpb⟩, b3⟩
  have hpl := hp.len
  have hp0 : ∀ i : Nat, i < 12 → 0 ≤ rd ps (i : Int) ∧ rd ps (i : Int) < 10000 := fun i hi => hpb _ (by
   rw [rd_nat, List.getD_eq_getElem?_getD, List.getElem?_eq_getElem (by omega)]
   exact List.getElem_mem (by omega))
  have hq0 : 0 ≤ rd ps 0 ∧ rd ps 0 < 10000 := hp0 0 (by omega)
  have hq1 : 0 ≤ rd ps 1 ∧ rd ps 1 < 10000 := hp0 1 (by omega)
  have hq2 : 0 ≤ rd ps 2 ∧ rd ps 2 < 10000 := hp0 2 (by omega)
  obtain ⟨ap, rfl, hcp⟩ := hp.ri.nat 0 (by omega)
  obtain ⟨_, ea, hcp1⟩ := hp.ri.nat 1 (by omega)
  obtain rfl := Option.some.inj ea
  obtain ⟨_, ea2, hcp2⟩ := hp.ri.nat 2 (by omega)
  obtain rfl := Option.some.inj ea2
  have hcp0 : w3.cell? ap = some (.int .i64 (rd ps 0)) := hcp
  replace hcp1 : w3.cell? ⟨ap.block, ap.off + 1, none⟩ = some (.int .i64 (rd ps 1)) := by rw [add_pos _ _ (by omega)] at hcp1; exact hcp1
  replace hcp2 : w3.cell? ⟨ap.block, ap.off + 2, none⟩ = some (.int .i64 (rd ps 2)) := by rw [add_pos _ _ (by omega)] at hcp2; exact hcp2
  clear hcp hp0 hpb hp ea ea2 hpl
  obtain ⟨p0, hp0⟩ : ∃ p, rd ps 0 = p := ⟨_, rfl⟩
  obtain ⟨p1, hp1⟩ : ∃ p, rd ps 1 = p := ⟨_, rfl⟩
  obtain ⟨p2, hp2⟩ : ∃ p, rd ps 2 = p := ⟨_, rfl⟩
  rw [hp0] at hcp0 hq0
  rw [hp1] at hcp1 hq1
  rw [hp2] at hcp2 hq2
  clear hp0 hp1 hp2
  replace g0 := pw_cell_below b3.out g0
  replace g1 := pw_cell_below b3.out g1
  replace g2 := pw_cell_below b3.out g2
  replace g3 := pw_cell_below b3.out g3
  replace g4 := pw_cell_below b3.out g4
  replace hO := hO.to b3
  replace hB := hB.trans b3
  clear b1 b2 b3
  obtain ⟨a, ha, ha0, ha1⟩ := rem_nat hq0.1 (show (0 : Int) < (m : Int) + 1 by omega)
  obtain ⟨d, hd, hd0, hd1⟩ := rem_nat hq1.1 (show (0 : Int) < (m : Int) - a + 1 by omega)
  obtain ⟨t, ht, ht0, ht1⟩ := rem_nat hq2.1 (show (0 : Int) < 32 by omega)
  obtain ⟨b, hbd⟩ : ∃ b, a + d = b := ⟨_, rfl⟩
  have hc : cutsOk (s.lv.length : Int) [0, a, b, (m : Int)] = true := by rw [HM.out.1]; exact cuts4 ha0 (by omega) (by omega)
  have hf := StF.of HS.out.ok
  have hpl : (parts s [0, a, b, (m : Int)]).length = 3 := by rw [parts_length]; rfl
  have hsp : splitS s [0, a, b, (m : Int)] = parts s [0, a, b, (m : Int)] := by rw [splitS, if_pos (by rw [HS.out.ok, hc]; rfl)]
  obtain ⟨j1, j2⟩ := join_parts HS.out.ok hc
  obtain ⟨v1, v2⟩ := stv_parts HS.out.ok hc t
  have hzo := tickS_ok HS.out.ok t
  have hcz : cutsOk ((tickS s t).lv.length : Int) [0, a, b, (m : Int)] = true := by rw [(tickS_lv s t).1]; exact hc
  obtain ⟨j3, j4⟩ := join_parts hzo hcz
  have hz1 := parts_szTo' s [0, a, b, (m : Int)] hf 3 (by omega)
  have hplz : (parts (tickS s t) [0, a, b, (m : Int)]).length = 3 := by rw [parts_length]; rfl
  have hz2 := parts_szTo' (tickS s t) [0, a, b, (m : Int)] (StF.of hzo) 3 (by omega)
  have hvl := v2
  obtain ⟨L, hL⟩ : ∃ L, parts s [0, a, b, (m : Int)] = L := ⟨_, rfl⟩
  obtain ⟨z, hz⟩ : ∃ z, tickS s t = z := ⟨_, rfl⟩
  rw [hz] at hvl j3 j4 hz2 hplz
  obtain ⟨K, hK⟩ : ∃ K, parts z [0, a, b, (m : Int)] = K := ⟨_, rfl⟩
  rw [hL] at hsp j1 j2 hz1 hpl hvl
  rw [hK] at hvl j3 j4 hz2 hplz
  have HL := hid (show splitS s [0, a, b, (m : Int)] = L ∧ L.length = 3 ∧ 3 + szTo L 3 ≤ 1048576 ∧ (stvL L t).length = 3 ∧ stvL L t = K ∧ 3 + szTo K 3 ≤ 1048576 from ⟨hsp, hpl, by omega, by rw [hvl, hplz], hvl, by omega⟩)
  have HJ := hid (show (joinOk L = true ∧ joinS L = s) ∧ (joinOk K = true ∧ joinS K = z) from ⟨⟨j1, j2⟩, j3, j4⟩)
  have HZ := hid hz
  have em0 : ((m : Int) + 1 == 0) = false := by simp; omega
  have em1 : ((m : Int) - a + 1 == 0) = false := by simp; omega
  have ew0 : IntKind.i64.wrap ((m : Int) + 1) = (m : Int) + 1 := i64w (by omega) (by omega)
  have ew1 : IntKind.i64.wrap ((m : Int) - a) = (m : Int) - a := i64w (by clear ew0; omega) (by clear ew0; omega)
  have ew2 : IntKind.i64.wrap ((m : Int) - a + 1) = (m : Int) - a + 1 := i64w (by clear ew0 ew1; omega) (by clear ew0 ew1; omega)
  have ew3 : IntKind.i64.wrap (a + d) = b := by rw [hbd]; exact i64w (by clear ew0 ew1 ew2; omega) (by clear ew0 ew1 ew2; omega)
  have ht2 : t ≤ 100 := by clear ew0 ew1 ew2 ew3; omega
  clear hbd hc hf hpl hsp j1 j2 v1 v2 hzo hcz j3 j4 hz1 hplz hz2 hvl hL hz hK hq0 hq1 hq2
  have bL := Bw.box1 w3 (.cells #[.int .i64 0, .int .i64 a, .int .i64 b, .int .i64 m] 3)
  have hcu : RI (w3.alloc (.cells #[.int .i64 0, .int .i64 a, .int .i64 b, .int .i64 m] 3)) (some ⟨w3.heap.size, 0, none⟩) 4 [0, a, b, (m : Int)] := (⟨own_lit w3 w3.heap.size 3 .i64 [0, a, b, (m : Int)] (Nat.le_refl _) (by simp)⟩ : OI (w3.alloc (.cells #[.int .i64 0, .int .i64 a, .int .i64 b, .int .i64 m] 3)) w3.heap.size (.slice (some ⟨w3.heap.size, 0, none⟩) 4 4) 4 [0, a, b, (m : Int)]).ri
  have G_g0 := hid (pw_cell_below bL.out g0)
  have G_g1 := hid (pw_cell_below bL.out g1)
  have G_g2 := hid (pw_cell_below bL.out g2)
  have G_g3 := hid (pw_cell_below bL.out g3)
  have G_g4 := hid (pw_cell_below bL.out g4)
  have G_hcp0 := hid (pw_cell_below bL.out hcp0)
  have G_hcp1 := hid (pw_cell_below bL.out hcp1)
  have G_hcp2 := hid (pw_cell_below bL.out hcp2)
  have G_O := hid (hO.to bL)
  have G_B := hid (hB.trans bL)
  have G_cu := hid hcu
  clear bL hO hB hcu
  go_wp2_with fail
  generalize (w3.alloc (.cells #[.int .i64 0, .int .i64 a, .int .i64 b, .int .i64 m] 3)) = w4 at *
  replace g0 := G_g0.out
  replace g1 := G_g1.out
  replace g2 := G_g2.out
  replace g3 := G_g3.out
  replace g4 := G_g4.out
  replace hcp0 := G_hcp0.out
  replace hcp1 := G_hcp1.out
  replace hcp2 := G_hcp2.out
  have hO := G_O.out
  have hB := G_B.out
  have hcu := G_cu.out
  clear G_g0 G_g1 G_g2 G_g3 G_g4 G_hcp0 G_hcp1 G_hcp2 G_O G_B G_cu
  refine (impl_SplitState' _ s (some ⟨w3.heap.size, 0, none⟩) 4 4 [0, a, b, m] L 3 _ hO.c hcu HL.out.1 HL.out.2.1).mono ?_
  rintro e_ w5 ⟨z5, AV, cV, hz5, rfl, hV, b1⟩
  replace g0 := pw_cell_below b1.out g0
  replace g1 := pw_cell_below b1.out g1
  replace g2 := pw_cell_below b1.out g2
  replace g3 := pw_cell_below b1.out g3
  replace g4 := pw_cell_below b1.out g4
  replace hcp0 := pw_cell_below b1.out hcp0
  replace hcp1 := pw_cell_below b1.out hcp1
  replace hcp2 := pw_cell_below b1.out hcp2
  replace hO := hO.to b1
  replace hB := hB.trans b1
  clear b1 hz5 hcu
  go_wp2_with fail
  refine (impl_JoinViews' AV 3 cV L s true _ hV.rd HL.out.2.2.1 HJ.out.1.2 HJ.out.1.1).mono ?_
  rintro e_ w6 ⟨z6, P0, pp0, P1, pp1, P2, pp2, P3, pp3, hz6, rfl, hx, b1⟩
  replace g0 := pw_cell_below b1.out g0
  replace g1 := pw_cell_below b1.out g1
  replace g2 := pw_cell_below b1.out g2
  replace g3 := pw_cell_below b1.out g3
  replace g4 := pw_cell_below b1.out g4
  replace hcp0 := pw_cell_below b1.out hcp0
  replace hcp1 := pw_cell_below b1.out hcp1
  replace hcp2 := pw_cell_below b1.out hcp2
  replace hO := hO.to b1
  replace hV := hV.to b1
  replace hB := hB.trans b1
  clear b1 hz6
  have h0 := box_cell (Bw.refl (w6.alloc (.cells #[.int .i64 s.ro, .slice P0 s.lv.length pp0, .slice P1 s.ms.length pp1, .slice P2 s.ts.length pp2, .slice P3 s.bd.length pp3] 36))) 0
  have h1 := box_cell (Bw.refl (w6.alloc (.cells #[.int .i64 s.ro, .slice P0 s.lv.length pp0, .slice P1 s.ms.length pp1, .slice P2 s.ts.length pp2, .slice P3 s.bd.length pp3] 36))) 1
  have h2 := box_cell (Bw.refl (w6.alloc (.cells #[.int .i64 s.ro, .slice P0 s.lv.length pp0, .slice P1 s.ms.length pp1, .slice P2 s.ts.length pp2, .slice P3 s.bd.length pp3] 36))) 2
  have h3 := box_cell (Bw.refl (w6.alloc (.cells #[.int .i64 s.ro, .slice P0 s.lv.length pp0, .slice P1 s.ms.length pp1, .slice P2 s.ts.length pp2, .slice P3 s.bd.length pp3] 36))) 3
  have h4 := box_cell (Bw.refl (w6.alloc (.cells #[.int .i64 s.ro, .slice P0 s.lv.length pp0, .slice P1 s.ms.length pp1, .slice P2 s.ts.length pp2, .slice P3 s.bd.length pp3] 36))) 4
  simp only [List.getElem?_toArray, List.getElem?_cons_zero, List.getElem?_cons_succ] at h0 h1 h2 h3 h4
  have b1 := Bw.box1 w6 (.cells #[.int .i64 s.ro, .slice P0 s.lv.length pp0, .slice P1 s.ms.length pp1, .slice P2 s.ts.length pp2, .slice P3 s.bd.length pp3] 36)
  replace g0 := pw_cell_below b1.out g0
  replace g1 := pw_cell_below b1.out g1
  replace g2 := pw_cell_below b1.out g2
  replace g3 := pw_cell_below b1.out g3
  replace g4 := pw_cell_below b1.out g4
  replace hcp0 := pw_cell_below b1.out hcp0
  replace hcp1 := pw_cell_below b1.out hcp1
  replace hcp2 := pw_cell_below b1.out hcp2
  replace hO := hO.to b1
  replace hV := hV.to b1
  replace hx := hx.to b1
  replace hB := hB.trans b1
  clear b1
  go_wp2_with fail
  generalize (w6.alloc (.cells #[.int .i64 s.ro, .slice P0 s.lv.length pp0, .slice P1 s.ms.length pp1, .slice P2 s.ts.length pp2, .slice P3 s.bd.length pp3] 36)) = w7 at *
  refine (impl_StepViews AV 3 cV L t _ hV.rd HL.out.2.2.1 (by omega)).mono ?_
  rintro e_ w8 ⟨v8, rfl, hw, b1⟩
  rw [HL.out.2.2.2.1, HL.out.2.2.2.2.1] at hw
  obtain ⟨AW, cW, rfl, _⟩ := hw.reads
  replace g0 := pw_cell_below b1.out g0
  replace g1 := pw_cell_below b1.out g1
  replace g2 := pw_cell_below b1.out g2
  replace g3 := pw_cell_below b1.out g3
  replace g4 := pw_cell_below b1.out g4
  replace hcp0 := pw_cell_below b1.out hcp0
  replace hcp1 := pw_cell_below b1.out hcp1
  replace hcp2 := pw_cell_below b1.out hcp2
  replace h0 := pw_cell_below b1.out h0
  replace h1 := pw_cell_below b1.out h1
  replace h2 := pw_cell_below b1.out h2
  replace h3 := pw_cell_below b1.out h3
  replace h4 := pw_cell_below b1.out h4
  replace hO := hO.to b1
  replace hV := hV.to b1
  replace hx := hx.to b1
  replace hB := hB.trans b1
  clear b1
  go_wp2_with fail
  refine (impl_JoinViews' AW 3 cW K z true _ hw.rd HL.out.2.2.2.2.2 HJ.out.2.2 HJ.out.2.1).mono ?_
  rintro e_ w9 ⟨z9, U0, u0, U1, u1, U2, u2, U3, u3, hz9, rfl, hy, b1⟩
  replace g0 := pw_cell_below b1.out g0
  replace g1 := pw_cell_below b1.out g1
  replace g2 := pw_cell_below b1.out g2
  replace g3 := pw_cell_below b1.out g3
  replace g4 := pw_cell_below b1.out g4
  replace hcp0 := pw_cell_below b1.out hcp0
  replace hcp1 := pw_cell_below b1.out hcp1
  replace hcp2 := pw_cell_below b1.out hcp2
  replace h0 := pw_cell_below b1.out h0
  replace h1 := pw_cell_below b1.out h1
  replace h2 := pw_cell_below b1.out h2
  replace h3 := pw_cell_below b1.out h3
  replace h4 := pw_cell_below b1.out h4
  replace hO := hO.to b1
  replace hV := hV.to b1
  replace hx := hx.to b1
  replace hw := hw.to b1
  replace hB := hB.trans b1
  clear b1 hz9 hV hw
  have k0 := box_cell (Bw.refl (w9.alloc (.cells #[.int .i64 z.ro, .slice U0 z.lv.length u0, .slice U1 z.ms.length u1, .slice U2 z.ts.length u2, .slice U3 z.bd.length u3] 36))) 0
  have k1 := box_cell (Bw.refl (w9.alloc (.cells #[.int .i64 z.ro, .slice U0 z.lv.length u0, .slice U1 z.ms.length u1, .slice U2 z.ts.length u2, .slice U3 z.bd.length u3] 36))) 1
  have k2 := box_cell (Bw.refl (w9.alloc (.cells #[.int .i64 z.ro, .slice U0 z.lv.length u0, .slice U1 z.ms.length u1, .slice U2 z.ts.length u2, .slice U3 z.bd.length u3] 36))) 2
  have k3 := box_cell (Bw.refl (w9.alloc (.cells #[.int .i64 z.ro, .slice U0 z.lv.length u0, .slice U1 z.ms.length u1, .slice U2 z.ts.length u2, .slice U3 z.bd.length u3] 36))) 3
  have k4 := box_cell (Bw.refl (w9.alloc (.cells #[.int .i64 z.ro, .slice U0 z.lv.length u0, .slice U1 z.ms.length u1, .slice U2 z.ts.length u2, .slice U3 z.bd.length u3] 36))) 4
  simp only [List.getElem?_toArray, List.getElem?_cons_zero, List.getElem?_cons_succ] at k0 k1 k2 k3 k4
  have b1 := Bw.box1 w9 (.cells #[.int .i64 z.ro, .slice U0 z.lv.length u0, .slice U1 z.ms.length u1, .slice U2 z.ts.length u2, .slice U3 z.bd.length u3] 36)
  replace g0 := pw_cell_below b1.out g0
  replace g1 := pw_cell_below b1.out g1
  replace g2 := pw_cell_below b1.out g2
  replace g3 := pw_cell_below b1.out g3
  replace g4 := pw_cell_below b1.out g4
  replace hcp0 := pw_cell_below b1.out hcp0
  replace hcp1 := pw_cell_below b1.out hcp1
  replace hcp2 := pw_cell_below b1.out hcp2
  replace h0 := pw_cell_below b1.out h0
  replace h1 := pw_cell_below b1.out h1
  replace h2 := pw_cell_below b1.out h2
  replace h3 := pw_cell_below b1.out h3
  replace h4 := pw_cell_below b1.out h4
  replace hO := hO.to b1
  replace hx := hx.to b1
  replace hy := hy.to b1
  replace hB := hB.trans b1
  clear b1
  go_upto_region 11 with fail
  generalize (w9.alloc (.cells #[.int .i64 z.ro, .slice U0 z.lv.length u0, .slice U1 z.ms.length u1, .slice U2 z.ts.length u2, .slice U3 z.bd.length u3] 36)) = w10 at *
  have bD := Bw.drawn (a := w10) ⟨⟨1, rfl⟩⟩
  refine start_ (n := 25) (S := fun w' => w'.cell? ⟨w1.heap.size, 0, none⟩ = some (.int .i64 s.ro) ∧ w'.cell? ⟨w1.heap.size, 1, none⟩ = some (.slice X0 m y0) ∧ w'.cell? ⟨w1.heap.size, 2, none⟩ = some (.slice X1 m y1) ∧ w'.cell? ⟨w1.heap.size, 3, none⟩ = some (.slice X2 m y2) ∧ w'.cell? ⟨w1.heap.size, 4, none⟩ = some (.slice X3 s.bd.length y3) ∧ w'.cell? ⟨w6.heap.size, 0, none⟩ = some (.int .i64 s.ro) ∧ w'.cell? ⟨w6.heap.size, 1, none⟩ = some (.slice P0 s.lv.length pp0) ∧ w'.cell? ⟨w6.heap.size, 2, none⟩ = some (.slice P1 s.ms.length pp1) ∧ w'.cell? ⟨w6.heap.size, 3, none⟩ = some (.slice P2 s.ts.length pp2) ∧ w'.cell? ⟨w6.heap.size, 4, none⟩ = some (.slice P3 s.bd.length pp3) ∧ w'.cell? ⟨w9.heap.size, 0, none⟩ = some (.int .i64 z.ro) ∧ w'.cell? ⟨w9.heap.size, 1, none⟩ = some (.slice U0 z.lv.length u0) ∧ w'.cell? ⟨w9.heap.size, 2, none⟩ = some (.slice U1 z.ms.length u1) ∧ w'.cell? ⟨w9.heap.size, 3, none⟩ = some (.slice U2 z.ts.length u2) ∧ w'.cell? ⟨w9.heap.size, 4, none⟩ = some (.slice U3 z.bd.length u3) ∧ w'.cell? ⟨ap.block, ap.off + 2, none⟩ = some (.int .i64 p2)) (ds := [24]) #[false, false, false, false, false, false, false, false, false, false, false, false, false, false, false, false, false, false, false, false, false, false, false, false, false] (by kernel_rfl) rfl rfl ⟨g0, g1, g2, g3, g4, h0, h1, h2, h3, h4, k0, k1, k2, k3, k4, hcp2⟩ (fun hHeld => ?_)
  refine pq_ (i := 0) (N := (some 59)) (v := ?_) (a' := ?_) rfl rfl (by kernel_rfl) (fun _ _ _ h => h) (Or.inl ⟨by rfl, ?_⟩) ?_ ?_
  rotate_left; (intro w'; go_simp; with_reducible rfl); rotate_left; (simp only [Act.put, s1_, s2_, s3_, i64_w, i32_w]; rfl)
  refine pq_ (i := 1) (N := (some 60)) (v := ?_) (a' := ?_) rfl rfl (by kernel_rfl) (fun _ _ _ h => h) (Or.inl ⟨by rfl, ?_⟩) ?_ ?_
  rotate_left; (intro w'; go_simp; with_reducible rfl); rotate_left; (simp only [Act.put, s1_, s2_, s3_, i64_w, i32_w]; rfl)
  refine pq_ (i := 2) (N := (some 61)) (v := ?_) (a' := ?_) rfl rfl (by kernel_rfl) (fun _ _ _ h => h) (Or.inl ⟨by rfl, ?_⟩) ?_ ?_
  rotate_left; (intro w'; go_simp; with_reducible rfl); rotate_left; (simp only [Act.put, s1_, s2_, s3_, i64_w, i32_w]; rfl)
  refine pq_ (i := 3) (N := (some 62)) (v := ?_) (a' := ?_) rfl rfl (by kernel_rfl) (fun _ _ _ h => h) (Or.inl ⟨by rfl, ?_⟩) ?_ ?_
  rotate_left; (intro w'; go_simp; with_reducible rfl); rotate_left; (simp only [Act.put, s1_, s2_, s3_, i64_w, i32_w]; rfl)
  refine pq_ (i := 4) (N := (some 63)) (v := ?_) (a' := ?_) rfl rfl (by kernel_rfl) (fun _ _ _ h => h) (Or.inl ⟨by rfl, ?_⟩) ?_ ?_
  rotate_left; (intro w'; go_simp; with_reducible rfl); rotate_left; (simp only [Act.put, s1_, s2_, s3_, i64_w, i32_w]; rfl)
  refine pq_ (i := 5) (N := (some 64)) (v := ?_) (a' := ?_) rfl rfl (by kernel_rfl) (fun _ _ _ h => h) (Or.inl ⟨by rfl, ?_⟩) ?_ ?_
  rotate_left; (intro w'; go_simp; with_reducible rfl); rotate_left; (simp only [Act.put, s1_, s2_, s3_, i64_w, i32_w]; rfl)
  refine pq_ (i := 6) (N := (some 65)) (v := ?_) (a' := ?_) rfl rfl (by kernel_rfl) (fun _ _ _ h => h) (Or.inl ⟨by rfl, ?_⟩) ?_ ?_
  rotate_left; (intro w'; go_simp; with_reducible rfl); rotate_left; (simp only [Act.put, s1_, s2_, s3_, i64_w, i32_w]; rfl)
  refine pq_ (i := 7) (N := (some 66)) (v := ?_) (a' := ?_) rfl rfl (by kernel_rfl) (fun _ _ _ h => h) (Or.inl ⟨by rfl, ?_⟩) ?_ ?_
  rotate_left; (intro w'; go_simp; with_reducible rfl); rotate_left; (simp only [Act.put, s1_, s2_, s3_, i64_w, i32_w]; rfl)
  refine pq_ (i := 8) (N := (some 67)) (v := ?_) (a' := ?_) rfl rfl (by kernel_rfl) (fun _ _ _ h => h) (Or.inl ⟨by rfl, ?_⟩) ?_ ?_
  rotate_left; (intro w'; go_simp; with_reducible rfl); rotate_left; (simp only [Act.put, s1_, s2_, s3_, i64_w, i32_w]; rfl)
  refine pq_ (i := 9) (N := (some 68)) (v := ?_) (a' := ?_) rfl rfl (by kernel_rfl) (fun _ _ _ h => h) (Or.inl ⟨by rfl, ?_⟩) ?_ ?_
  rotate_left; (intro w'; go_simp; with_reducible rfl); rotate_left; (simp only [Act.put, s1_, s2_, s3_, i64_w, i32_w]; rfl)
  refine tq_ (i := 10) (N := (some 69)) (v := ?_) (a' := ?_) rfl rfl (by kernel_rfl) (fun _ _ _ h => h) (Or.inl ⟨by rfl, ?_⟩) hHeld ?_ ?_
  rotate_left; (rintro w' ⟨s0, s1, s2, s3, s4, s5, s6, s7, s8, s9, s10, s11, s12, s13, s14, s15⟩; go_simp; with_reducible rfl); rotate_left; (simp only [Act.put, s1_, s2_, s3_, i64_w, i32_w]; rfl)
  refine tq_ (i := 11) (N := (some 70)) (v := ?_) (a' := ?_) rfl rfl (by kernel_rfl) (fun _ _ _ h => h) (Or.inl ⟨by rfl, ?_⟩) hHeld ?_ ?_
  rotate_left; (rintro w' ⟨s0, s1, s2, s3, s4, s5, s6, s7, s8, s9, s10, s11, s12, s13, s14, s15⟩; go_simp; with_reducible rfl); rotate_left; (simp only [Act.put, s1_, s2_, s3_, i64_w, i32_w]; rfl)
  refine one_ (i := 12) (N := (some 71)) #[true, true, true, true, true, true, true, true, true, true, true, true, true, false, false, false, false, false, false, false, false, false, false, false, false] rfl rfl (by kernel_rfl) (by decide) (fun K hK => ?_)
  refine goes_ Try.func22 (by kernel_rfl) rfl #[.agg #[.int .i64 s.ro, .slice P0 s.lv.length pp0, .slice P1 s.ms.length pp1, .slice P2 s.ts.length pp2, .slice P3 s.bd.length pp3], .agg #[.int .i64 s.ro, .slice X0 m y0, .slice X1 m y1, .slice X2 m y2, .slice X3 s.bd.length y3]] (by rfl) rfl rfl (by (try simp only [List.map_toArray, List.map_cons, List.map_nil]); first | done | rfl) ?_
  refine (spec_SameState_yes _ _ s _ (hx.r.to bD) (hO.r.to bD)).mono ?_
  rintro e wa ⟨rfl, ba⟩
  refine ⟨_, rfl, ?_⟩
  have bA := bD.trans ba
  refine hK.out _ _ ⟨pw_cell_below bA.out g0, pw_cell_below bA.out g1, pw_cell_below bA.out g2, pw_cell_below bA.out g3, pw_cell_below bA.out g4, pw_cell_below bA.out h0, pw_cell_below bA.out h1, pw_cell_below bA.out h2, pw_cell_below bA.out h3, pw_cell_below bA.out h4, pw_cell_below bA.out k0, pw_cell_below bA.out k1, pw_cell_below bA.out k2, pw_cell_below bA.out k3, pw_cell_below bA.out k4, pw_cell_below bA.out hcp2⟩ (fun hHeld => ?_)
  clear hK K; refine norm_ (a' := ?_) ?_ ?_; rotate_left; (show Act.put _ (some 71) _ = _; simp only [Act.put, s1_, s2_, s3_, i64_w, i32_w]; rfl)
  refine pq_ (i := 13) (N := (some 72)) (v := ?_) (a' := ?_) rfl rfl (by kernel_rfl) (fun _ _ _ h => h) (Or.inl ⟨by rfl, ?_⟩) ?_ ?_
  rotate_left; (intro w'; go_simp; with_reducible rfl); rotate_left; (simp only [Act.put, s1_, s2_, s3_, i64_w, i32_w]; rfl)
  refine pq_ (i := 14) (N := (some 73)) (v := ?_) (a' := ?_) rfl rfl (by kernel_rfl) (fun _ _ _ h => h) (Or.inl ⟨by rfl, ?_⟩) ?_ ?_
  rotate_left; (intro w'; go_simp; with_reducible rfl); rotate_left; (simp only [Act.put, s1_, s2_, s3_, i64_w, i32_w]; rfl)
  refine tq_ (i := 15) (N := (some 74)) (v := ?_) (a' := ?_) rfl rfl (by kernel_rfl) (fun _ _ _ h => h) (Or.inl ⟨by rfl, ?_⟩) hHeld ?_ ?_
  rotate_left; (rintro w' ⟨s0, s1, s2, s3, s4, s5, s6, s7, s8, s9, s10, s11, s12, s13, s14, s15⟩; go_simp; with_reducible rfl); rotate_left; (simp only [Act.put, s1_, s2_, s3_, i64_w, i32_w]; rfl)
  refine tq_ (i := 16) (N := (some 75)) (v := ?_) (a' := ?_) rfl rfl (by kernel_rfl) (fun _ _ _ h => h) (Or.inl ⟨by rfl, ?_⟩) hHeld ?_ ?_
  rotate_left; (rintro w' ⟨s0, s1, s2, s3, s4, s5, s6, s7, s8, s9, s10, s11, s12, s13, s14, s15⟩; go_simp; with_reducible rfl); rotate_left; (simp only [Act.put, s1_, s2_, s3_, i64_w, i32_w]; rfl)
  refine pq_ (i := 17) (N := (some 76)) (v := ?_) (a' := ?_) rfl rfl (by kernel_rfl) (fun _ _ _ h => h) (Or.inl ⟨by rfl, ?_⟩) ?_ ?_
  rotate_left; (intro w'; go_simp; with_reducible rfl); rotate_left; (simp only [Act.put, s1_, s2_, s3_, i64_w, i32_w]; rfl)
  refine pq_ (i := 18) (N := (some 77)) (v := ?_) (a' := ?_) rfl rfl (by kernel_rfl) (fun _ _ _ h => h) (Or.inl ⟨by rfl, ?_⟩) ?_ ?_
  rotate_left; (intro w'; go_simp; with_reducible rfl); rotate_left; (simp only [Act.put, s1_, s2_, s3_, i64_w, i32_w]; rfl)
  refine tq_ (i := 19) (N := (some 78)) (v := ?_) (a' := ?_) rfl rfl (by kernel_rfl) (fun _ _ _ h => h) (Or.inl ⟨by rfl, ?_⟩) hHeld ?_ ?_
  rotate_left; (rintro w' ⟨s0, s1, s2, s3, s4, s5, s6, s7, s8, s9, s10, s11, s12, s13, s14, s15⟩; go_simp; with_reducible rfl); rotate_left; (simp only [Act.put, s1_, s2_, s3_, i64_w, i32_w]; rfl)
  refine pq_ (i := 20) (N := (some 79)) (v := ?_) (a' := ?_) rfl rfl (by kernel_rfl) (fun _ _ _ h => h) (Or.inl ⟨by rfl, ?_⟩) ?_ ?_
  rotate_left; (intro w'; go_simp; with_reducible rfl); rotate_left; (simp only [Act.put, s1_, s2_, s3_, i64_w, i32_w]; rfl)
  refine one_ (i := 21) (N := (some 80)) #[true, true, true, true, true, true, true, true, true, true, true, true, true, true, true, true, true, true, true, true, true, true, false, false, false] rfl rfl (by kernel_rfl) (by decide) (fun K hK => ?_)
  refine goes_ Try.func23 (by kernel_rfl) rfl #[.agg #[.int .i64 s.ro, .slice X0 m y0, .slice X1 m y1, .slice X2 m y2, .slice X3 s.bd.length y3], .int .i64 t] (by rfl) rfl rfl (by (try simp only [List.map_toArray, List.map_cons, List.map_nil]); first | done | rfl) ?_
  refine (spec_StepState _ s t _ (hO.r.to bA) HS.out.ok (by omega)).mono ?_
  rintro e wb ⟨v, rfl, hv, bb⟩
  refine ⟨_, rfl, ?_⟩
  rw [HZ.out] at hv
  have bB := bA.trans bb
  refine hK.out _ _ ⟨pw_cell_below bB.out g0, pw_cell_below bB.out g1, pw_cell_below bB.out g2, pw_cell_below bB.out g3, pw_cell_below bB.out g4, pw_cell_below bB.out h0, pw_cell_below bB.out h1, pw_cell_below bB.out h2, pw_cell_below bB.out h3, pw_cell_below bB.out h4, pw_cell_below bB.out k0, pw_cell_below bB.out k1, pw_cell_below bB.out k2, pw_cell_below bB.out k3, pw_cell_below bB.out k4, pw_cell_below bB.out hcp2⟩ (fun hHeld => ?_)
  clear hK K; refine norm_ (a' := ?_) ?_ ?_; rotate_left; (show Act.put _ (some 80) _ = _; simp only [Act.put, s1_, s2_, s3_, i64_w, i32_w]; rfl)
  refine one_ (i := 22) (N := (some 81)) #[true, true, true, true, true, true, true, true, true, true, true, true, true, true, true, true, true, true, true, true, true, true, true, false, false] rfl rfl (by kernel_rfl) (by decide) (fun K hK => ?_)
  refine goes_ Try.func22 (by kernel_rfl) rfl #[.agg #[.int .i64 z.ro, .slice U0 z.lv.length u0, .slice U1 z.ms.length u1, .slice U2 z.ts.length u2, .slice U3 z.bd.length u3], v] (by rfl) rfl rfl (by (try simp only [List.map_toArray, List.map_cons, List.map_nil]); first | done | rfl) ?_
  refine (spec_SameState_yes _ _ z _ (hy.r.to bB) hv.r).mono ?_
  rintro e wc ⟨rfl, bc⟩
  refine ⟨_, rfl, ?_⟩
  have bC := bB.trans bc
  refine hK.out _ _ ⟨pw_cell_below bC.out g0, pw_cell_below bC.out g1, pw_cell_below bC.out g2, pw_cell_below bC.out g3, pw_cell_below bC.out g4, pw_cell_below bC.out h0, pw_cell_below bC.out h1, pw_cell_below bC.out h2, pw_cell_below bC.out h3, pw_cell_below bC.out h4, pw_cell_below bC.out k0, pw_cell_below bC.out k1, pw_cell_below bC.out k2, pw_cell_below bC.out k3, pw_cell_below bC.out k4, pw_cell_below bC.out hcp2⟩ (fun hHeld => ?_)
  clear hK K; refine norm_ (a' := ?_) ?_ ?_; rotate_left; (show Act.put _ (some 81) _ = _; simp only [Act.put, s1_, s2_, s3_, i64_w, i32_w]; rfl)
  refine pq_ (i := 23) (N := (some 82)) (v := ?_) (a' := ?_) rfl rfl (by kernel_rfl) (fun _ _ _ h => h) (Or.inl ⟨by rfl, ?_⟩) ?_ ?_
  rotate_left; (intro w'; go_simp; with_reducible rfl); rotate_left; (simp only [Act.put, s1_, s2_, s3_, i64_w, i32_w]; rfl)
  clear hHeld
  refine last_ (i := 24) (N := (some 2)) #[true, true, true, true, true, true, true, true, true, true, true, true, true, true, true, true, true, true, true, true, true, true, true, true, true] rfl rfl (by kernel_rfl) (by decide) (fun K hK => ?_)
  refine value_ (w1 := ?_) (v := ?_) (by rfl) rfl ?_ ?_
  rotate_left 2
  ·go_simp
   constructor
   ·rfl
   ·rfl
  refine hK.out _ _ ?_
  clear hK K; refine norm_ (a' := ?_) ?_ ?_; rotate_left; (show Act.put _ (some 2) _ = _; simp only [Act.put, s1_, s2_, s3_, i64_w, i32_w]; rfl)
  refine done_ (by kernel_rfl) ?_
  go_wp2
  go_ret
  exact ⟨rfl, hB.trans bC⟩
 ·have t1 : decide (1048576 < (n : Int)) = true := decide_eq_true (by omega)
  have T1 := hid t1
  clear t1
  go_enter Try.func6, Try.ntmps6
  go_wp2_with fail
  refine (toBool (lawbig _ _ _ _) T1.out).mono ?_
  rintro e w1 ⟨rfl, rfl⟩
  go_wp2
  go_ret
  exact ⟨rfl, Bw.refl _⟩
end Go.Proofs.Ytaemkneppphkmaa.U
