
/- RefineState. -/
import Derived.Test.YtaidbdogolhnjaaYi
set_option linter.unusedVariables false
set_option linter.unusedSimpArgs false
namespace Go.Proofs.Ytaidbdogolhnjaa.U
open Go.RowKit Go.Lib Go.Proofs.YtaidbdogolhnjaaW.PrintWords

def refOk (s : Sta) (i : Nat) : Bool := decide ((gc s.lv i).l < 4) && isBal s.ro (splitC s.lv i)
theorem impl_toBal (ro : Int) (A : Option Addr) (n c : Nat) (l : List Ce) (w : World) (r : IdR w A n l) {b : Bool} (h : isBal ro l = b) : Calls Try.prog 31 #[.agg #[.int .i64 ro, .slice A n c]] w fun e w' => e = .returned (.bool b) ∧ Bw w w' := by rw [← h]; exact impl_IsBalanced ro A n c l w r

set_option maxHeartbeats 8000000 in
set_option maxRecDepth 100000 in
theorem impl_RefineState (x : Value) (s : Sta) (i : Nat) (w : World) (hx : StR w x s) (hok : staOk s.ro s.lv s.ms s.ts s.bd = true) (hi : i < s.lv.length) :
    Calls Try.prog 9 #[x, .int .i64 i] w fun e w' => ∃ v, e = .returned (.tuple #[v, .bool (refOk s i)]) ∧ StO w' w.heap.size w'.heap.size v (if refOk s i = true then refS s i else s) ∧ Bw w w' := by
  obtain ⟨RV, hRV⟩ : ∃ r, (if refOk s i = true then refS s i else s) = r := ⟨_, rfl⟩
  rw [hRV]
  obtain ⟨OV, hOV⟩ : ∃ b, refOk s i = b := ⟨_, rfl⟩
  rw [hOV]
  have HRV := hid hRV
  have HOV := hid hOV
  clear hRV hOV
  have hs := StG.of hok
  have hmx := hs.f.n
  have hx0 := hx
  have HL := hid (show s.lv.length ≤ 1000000 ∧ s.ms.length ≤ 1000000000 ∧ s.ts.length ≤ 1000000000 ∧ s.bd.length ≤ 1000000000 from ⟨by omega, by rw [hs.f.ms]; omega, by rw [hs.f.ts]; omega, by have := hs.f.bd; omega⟩)
  have HS := hid hs
  have HI := hid hi
  have HN := hid (show s.lv.length ≤ 128 from hmx)
  obtain ⟨A0, c0, A1, c1, A2, c2, A3, c3, rfl, r0, r1, r2, r3⟩ := hx
  have b0 := (Bw.box1 w (.cells #[.int .i64 s.ro, .slice A0 s.lv.length c0, .slice A1 s.ms.length c1, .slice A2 s.ts.length c2, .slice A3 s.bd.length c3] 29)).alloc (.cells #[.int .i64 0, .slice none 0 0, .slice none 0 0, .slice none 0 0, .slice none 0 0] 29)
  have g0 := box_cell ((Bw.refl (w.alloc (.cells #[.int .i64 s.ro, .slice A0 s.lv.length c0, .slice A1 s.ms.length c1, .slice A2 s.ts.length c2, .slice A3 s.bd.length c3] 29))).alloc (.cells #[.int .i64 0, .slice none 0 0, .slice none 0 0, .slice none 0 0, .slice none 0 0] 29)) 0
  have g1 := box_cell ((Bw.refl (w.alloc (.cells #[.int .i64 s.ro, .slice A0 s.lv.length c0, .slice A1 s.ms.length c1, .slice A2 s.ts.length c2, .slice A3 s.bd.length c3] 29))).alloc (.cells #[.int .i64 0, .slice none 0 0, .slice none 0 0, .slice none 0 0, .slice none 0 0] 29)) 1
  have g2 := box_cell ((Bw.refl (w.alloc (.cells #[.int .i64 s.ro, .slice A0 s.lv.length c0, .slice A1 s.ms.length c1, .slice A2 s.ts.length c2, .slice A3 s.bd.length c3] 29))).alloc (.cells #[.int .i64 0, .slice none 0 0, .slice none 0 0, .slice none 0 0, .slice none 0 0] 29)) 2
  have g3 := box_cell ((Bw.refl (w.alloc (.cells #[.int .i64 s.ro, .slice A0 s.lv.length c0, .slice A1 s.ms.length c1, .slice A2 s.ts.length c2, .slice A3 s.bd.length c3] 29))).alloc (.cells #[.int .i64 0, .slice none 0 0, .slice none 0 0, .slice none 0 0, .slice none 0 0] 29)) 3
  have g4 := box_cell ((Bw.refl (w.alloc (.cells #[.int .i64 s.ro, .slice A0 s.lv.length c0, .slice A1 s.ms.length c1, .slice A2 s.ts.length c2, .slice A3 s.bd.length c3] 29))).alloc (.cells #[.int .i64 0, .slice none 0 0, .slice none 0 0, .slice none 0 0, .slice none 0 0] 29)) 4
  simp only [List.getElem?_toArray, List.getElem?_cons_zero, List.getElem?_cons_succ] at g0 g1 g2 g3 g4
  have hR := heap_alloc_new (w.alloc (.cells #[.int .i64 s.ro, .slice A0 s.lv.length c0, .slice A1 s.ms.length c1, .slice A2 s.ts.length c2, .slice A3 s.bd.length c3] 29)) (.cells #[.int .i64 0, .slice none 0 0, .slice none 0 0, .slice none 0 0, .slice none 0 0] 29 (0, 0))
  rw [show (w.alloc (.cells #[.int .i64 s.ro, .slice A0 s.lv.length c0, .slice A1 s.ms.length c1, .slice A2 s.ts.length c2, .slice A3 s.bd.length c3] 29)).heap.size = w.heap.size + 1 by simp] at hR
  have HR := hid hR
  have HOK := hid hok
  have HMO := hid (isBal_iff.1 (staOk_iff.1 hok).1).1
  clear hR hok hi hs hmx
  go_enter Try.func9, Try.ntmps9
  go_upto_region 1 with fail
  generalize ((w.alloc (.cells #[.int .i64 s.ro, .slice A0 s.lv.length c0, .slice A1 s.ms.length c1, .slice A2 s.ts.length c2, .slice A3 s.bd.length c3] 29)).alloc (.cells #[.int .i64 0, .slice none 0 0, .slice none 0 0, .slice none 0 0, .slice none 0 0] 29)) = W1 at *
  go_wp2_with fail
  refine (impl_copyState _ s _ (hx0.to b0) HL.out.1 HL.out.2.1 HL.out.2.2.1 HL.out.2.2.2).mono ?_
  rintro e w2 ⟨v, rfl, hO, b2⟩
  obtain ⟨vl, vm, vt, vb, rfl, hl, hm, ht_, hb, ap⟩ := hO
  obtain ⟨B0, d0, rfl, _, _⟩ := hl.reads
  obtain ⟨B1, d1, rfl, _, _⟩ := hm.reads
  obtain ⟨B2, d2, rfl, _, _⟩ := ht_.reads
  obtain ⟨B3, d3, rfl, _, _⟩ := hb.reads
  have bx := Bw.box1 w2 (.cells #[.int .i64 s.ro, .slice B0 s.lv.length d0, .slice B1 s.ms.length d1, .slice B2 s.ts.length d2, .slice B3 s.bd.length d3] 29)
  have hF := heap_alloc_new w2 (.cells #[.int .i64 s.ro, .slice B0 s.lv.length d0, .slice B1 s.ms.length d1, .slice B2 s.ts.length d2, .slice B3 s.bd.length d3] 29 (0, 0))
  have hO2 : StO w2 W1.heap.size w2.heap.size (.agg #[.int .i64 s.ro, .slice B0 s.lv.length d0, .slice B1 s.ms.length d1, .slice B2 s.ts.length d2, .slice B3 s.bd.length d3]) s := ⟨_, _, _, _, rfl, hl, hm, ht_, hb, ap⟩
  have hBS := BS.of_StO (hO2.to bx) hF b2.size
  have hB1 := b2.trans bx
  have hw1 : w.heap.size + 1 < W1.heap.size := blk_lt HR.out
  have HRR := hid ((hB1.out.block _ (blk_lt HR.out)).trans HR.out)
  have HB := hid (b0.trans hB1)
  replace g0 := pw_cell_below hB1.out g0
  replace g1 := pw_cell_below hB1.out g1
  replace g2 := pw_cell_below hB1.out g2
  replace g3 := pw_cell_below hB1.out g3
  replace g4 := pw_cell_below hB1.out g4
  have HBS := hid hBS
  clear hO2 hl hm ht_ hb bx b2 hB1 b0 hF hBS
  go_upto_region 2 with fail
  generalize (w2.alloc (.cells #[.int .i64 s.ro, .slice B0 s.lv.length d0, .slice B1 s.ms.length d1, .slice B2 s.ts.length d2, .slice B3 s.bd.length d3] 29)) = w3 at *
  generalize w2.heap.size = P at *
  go_wp2_with fail
  refine (impl_StateOk s.ro A0 _ c0 s.lv A1 _ c1 s.ms A2 _ c2 s.ts A3 _ c3 s.bd _ (r0.to HB.out) (r1.to HB.out) (r2.to HB.out) (r3.to HB.out)).mono ?_
  rintro e w4 ⟨rfl, b4⟩
  rw [HOK.out]
  replace g0 := pw_cell_below b4.out g0
  replace g1 := pw_cell_below b4.out g1
  replace g2 := pw_cell_below b4.out g2
  replace g3 := pw_cell_below b4.out g3
  replace g4 := pw_cell_below b4.out g4
  have HB4 := hid (HB.out.trans b4)
  have HBS4 := hid (HBS.out.to b4)
  have HRR4 := hid ((b4.out.block _ (blk_lt HRR.out)).trans HRR.out)
  clear b4 HB HBS HRR
  go_wp2_with fail
  refine (impl_MayRefine s.ro A0 _ c0 s.lv i _ (r0.to HB4.out) HMO.out HI.out).mono ?_
  rintro e w5 ⟨rfl, b5⟩
  replace g0 := pw_cell_below b5.out g0
  replace g1 := pw_cell_below b5.out g1
  replace g2 := pw_cell_below b5.out g2
  replace g3 := pw_cell_below b5.out g3
  replace g4 := pw_cell_below b5.out g4
  have HB5 := hid (HB4.out.trans b5)
  have hBS5 := HBS4.out.to b5
  have hRR5 := (b5.out.block _ (blk_lt HRR4.out)).trans HRR4.out
  clear b5 HB4 HBS4 HRR4
  obtain ⟨mb, hmb⟩ : ∃ mb, decide ((gc s.lv i).l < 4) = mb := ⟨_, rfl⟩
  rw [hmb]
  have HMB := hid hmb
  clear hmb
  cases mb with
  | false =>
    have HOKB := hid (show refOk s i = false from by rw [refOk, HMB.out]; rfl)
    have hst := hBS5.sto (lo := W1.heap.size) (fun q hq => hq)
    have k0 := (blk_cell hBS5.st 0).trans (show _ = some (Value.int .i64 s.ro) from rfl)
    have k1 := (blk_cell hBS5.st 1).trans (show _ = some (Value.slice B0 s.lv.length d0) from rfl)
    have k2 := (blk_cell hBS5.st 2).trans (show _ = some (Value.slice B1 s.ms.length d1) from rfl)
    have k3 := (blk_cell hBS5.st 3).trans (show _ = some (Value.slice B2 s.ts.length d2) from rfl)
    have k4 := (blk_cell hBS5.st 4).trans (show _ = some (Value.slice B3 s.bd.length d3) from rfl)
    have s0 := (blk_cell hRR5 0).trans (show _ = some (Value.int .i64 0) from rfl)
    have f0_ := blk_frozen hRR5 0
    have s1 := (blk_cell hRR5 1).trans (show _ = some (Value.slice none 0 0) from rfl)
    have f1_ := blk_frozen hRR5 1
    have s2 := (blk_cell hRR5 2).trans (show _ = some (Value.slice none 0 0) from rfl)
    have f2_ := blk_frozen hRR5 2
    have s3 := (blk_cell hRR5 3).trans (show _ = some (Value.slice none 0 0) from rfl)
    have f3_ := blk_frozen hRR5 3
    have s4 := (blk_cell hRR5 4).trans (show _ = some (Value.slice none 0 0) from rfl)
    have f4_ := blk_frozen hRR5 4
    have hwi := (((((Wi.refl w5 (w.heap.size + 1) (w.heap.size + 1 + 1)).trans (Wi.set _ _ 0 (.int .i64 s.ro))).trans (Wi.set _ _ 1 (.slice B0 s.lv.length d0))).trans (Wi.set _ _ 2 (.slice B1 s.ms.length d1))).trans (Wi.set _ _ 3 (.slice B2 s.ts.length d2))).trans (Wi.set _ _ 4 (.slice B3 s.bd.length d3))
    have HFF := hid (show (((((w5.setCell ⟨w.heap.size + 1, 0, none⟩ (.int .i64 s.ro)).setCell ⟨w.heap.size + 1, 1, none⟩ (.slice B0 s.lv.length d0)).setCell ⟨w.heap.size + 1, 2, none⟩ (.slice B1 s.ms.length d1)).setCell ⟨w.heap.size + 1, 3, none⟩ (.slice B2 s.ts.length d2)).setCell ⟨w.heap.size + 1, 4, none⟩ (.slice B3 s.bd.length d3)).heap[w.heap.size + 1]? = some (.cells #[.int .i64 s.ro, .slice B0 s.lv.length d0, .slice B1 s.ms.length d1, .slice B2 s.ts.length d2, .slice B3 s.bd.length d3] 29 (0, 0)) from (blk_set (blk_set (blk_set (blk_set (blk_set hRR5 0 (.int .i64 s.ro)) 1 (.slice B0 s.lv.length d0)) 2 (.slice B1 s.ms.length d1)) 3 (.slice B2 s.ts.length d2)) 4 (.slice B3 s.bd.length d3)))
    have HST := hid (StO_mono (hst.wi hwi (Or.inr (by omega))) (show w.heap.size ≤ _ by omega) (show _ ≤ (((((w5.setCell ⟨w.heap.size + 1, 0, none⟩ (.int .i64 s.ro)).setCell ⟨w.heap.size + 1, 1, none⟩ (.slice B0 s.lv.length d0)).setCell ⟨w.heap.size + 1, 2, none⟩ (.slice B1 s.ms.length d1)).setCell ⟨w.heap.size + 1, 3, none⟩ (.slice B2 s.ts.length d2)).setCell ⟨w.heap.size + 1, 4, none⟩ (.slice B3 s.bd.length d3)).heap.size from hwi.size))
    have HBF := hid (HB5.out.then_wi hwi (by omega))
    clear hwi hst hBS5 hRR5
    go_wp2
    refine bodyPost_ret (v := .tuple #[.agg #[.int .i64 s.ro, .slice B0 s.lv.length d0, .slice B1 s.ms.length d1, .slice B2 s.ts.length d2, .slice B3 s.bd.length d3], .bool false]) ?_ rfl ?_
    · exact results_ct (p := 4) (u := 5) rfl _ _ (w.heap.size + 1) 29 #[.int .i64 s.ro, .slice B0 s.lv.length d0, .slice B1 s.ms.length d1, .slice B2 s.ts.length d2, .slice B3 s.bd.length d3] (0, 0) _ rfl HFF.out Try.underlying29 rfl (by kernel_rfl)
    · exact ⟨.agg #[.int .i64 s.ro, .slice B0 s.lv.length d0, .slice B1 s.ms.length d1, .slice B2 s.ts.length d2, .slice B3 s.bd.length d3], by rw [← HOV.out, HOKB.out], by rw [← HRV.out, HOKB.out]; exact HST.out, HBF.out⟩
  | true =>
    have HB5K := HB5
    have hlt : (gc s.lv i).l < 4 := of_decide_eq_true HMB.out
    have hcx := meshOk_all HMO.out _ (gc_mem HI.out)
    have hcell := HS.out.f.mv i HI.out
    have htr := HS.out.tv i HI.out
    have hbk := hid (show s.ms.length = s.lv.length ∧ s.ts.length = s.lv.length from ⟨HS.out.f.ms, HS.out.f.ts⟩)
    go_wp2_with fail
    refine (impl_Srefine (· < W1.heap.size) P s _ _ _ _ i _ hBS5 HI.out hbk.out.1 hbk.out.2 (by have := HN.out; omega) hcx hcell htr).mono ?_
    rintro e w6 ⟨u, vl', vm', vt', rfl, h6, f6⟩
    obtain ⟨E0, f0, E1, f1, E2, f2, E3, f3, rfl, rfl, rfl, e3⟩ := h6.lits
    have e3' : Value.slice B3 s.bd.length d3 = Value.slice E3 s.bd.length f3 := e3
    injection e3' with a1 a2 a3
    subst a1
    subst a3
    clear e3 a2
    have HB6 := hid (f6.below (w0 := w) HB5.out (fun q hq => by show q < W1.heap.size; omega))
    have hRR6 := (f6.block (w.heap.size + 1) (by show _ < W1.heap.size; omega)).trans hRR5
    replace g0 := (World.cell?_of_block (f6.block w.heap.size (by show _ < W1.heap.size; omega))).trans g0
    replace g1 := (World.cell?_of_block (f6.block w.heap.size (by show _ < W1.heap.size; omega))).trans g1
    replace g2 := (World.cell?_of_block (f6.block w.heap.size (by show _ < W1.heap.size; omega))).trans g2
    replace g3 := (World.cell?_of_block (f6.block w.heap.size (by show _ < W1.heap.size; omega))).trans g3
    replace g4 := (World.cell?_of_block (f6.block w.heap.size (by show _ < W1.heap.size; omega))).trans g4
    obtain ⟨nl, hnl⟩ : ∃ n, (refS s i).lv.length = n := ⟨_, rfl⟩
    obtain ⟨nm, hnm⟩ : ∃ n, (refS s i).ms.length = n := ⟨_, rfl⟩
    obtain ⟨nt, hnt⟩ : ∃ n, (refS s i).ts.length = n := ⟨_, rfl⟩
    have hr6 := FO.idR h6.l
    have hst6 := h6.st
    have H6 := hid h6
    have HRR6 := hid hRR6
    rw [hnl] at hr6
    rw [show (refS s i).ro = s.ro from rfl, hnl, hnm, hnt] at hst6
    try rw [show (refS s i).bd.length = s.bd.length from rfl] at hst6
    have k0 := (blk_cell hst6 0).trans (show _ = some (Value.int .i64 s.ro) from rfl)
    have k1 := (blk_cell hst6 1).trans (show _ = some (Value.slice E0 nl f0) from rfl)
    have k2 := (blk_cell hst6 2).trans (show _ = some (Value.slice E1 nm f1) from rfl)
    have k3 := (blk_cell hst6 3).trans (show _ = some (Value.slice E2 nt f2) from rfl)
    have k4 := (blk_cell hst6 4).trans (show _ = some (Value.slice B3 s.bd.length d3) from rfl)
    have HST6 := hid hst6
    have HNL := hid (And.intro hnl (And.intro hnm hnt))
    have HR6 := hid hr6
    clear h6 f6 hst6 hr6 hRR6 hBS5 hRR5 hnl hnm hnt
    go_wp2_with fail
    cases hbal : isBal s.ro (splitC s.lv i) with
    | false =>
      have HOKB := hid (show refOk s i = false by rw [refOk, hbal]; simp)
      have HBAL := hid hbal
      clear hbal
      refine (impl_toBal s.ro E0 nl f0 (splitC s.lv i) _ HR6.out HBAL.out).mono ?_
      rintro e w7 ⟨rfl, b7⟩
      replace g0 := pw_cell_below b7.out g0
      replace g1 := pw_cell_below b7.out g1
      replace g2 := pw_cell_below b7.out g2
      replace g3 := pw_cell_below b7.out g3
      replace g4 := pw_cell_below b7.out g4
      have HB7 := hid (HB6.out.trans b7)
      have HR7 := hid ((b7.out.block _ (blk_lt HRR6.out)).trans HRR6.out)
      clear b7 k0 k1 k2 k3 k4 HRR6 HB6 H6 HST6 HR6
      go_wp2_with fail
      refine (impl_copyState _ s _ (hx0.to HB7.out) HL.out.1 HL.out.2.1 HL.out.2.2.1 HL.out.2.2.2).mono ?_
      rintro e w8 ⟨v, rfl, hO, b8⟩
      obtain ⟨vl, vm, vt, vb, rfl, hl, hm, ht_, hb, ap⟩ := hO
      obtain ⟨B0, d0, rfl, _, _⟩ := hl.reads
      obtain ⟨B1, d1, rfl, _, _⟩ := hm.reads
      obtain ⟨B2, d2, rfl, _, _⟩ := ht_.reads
      obtain ⟨B3, d3, rfl, _, _⟩ := hb.reads
      have hst : StO w8 w7.heap.size w8.heap.size (.agg #[.int .i64 s.ro, .slice B0 s.lv.length d0, .slice B1 s.ms.length d1, .slice B2 s.ts.length d2, .slice B3 s.bd.length d3]) s := ⟨_, _, _, _, rfl, hl, hm, ht_, hb, ap⟩
      have hRR8 := (b8.out.block _ (blk_lt HR7.out)).trans HR7.out
      have HB8 := hid (HB7.out.trans b8)
      have hlt8 := blk_lt HR7.out
      clear hl hm ht_ hb ap b8
      have s0 := (blk_cell hRR8 0).trans (show _ = some (Value.int .i64 0) from rfl)
      have f0_ := blk_frozen hRR8 0
      have s1 := (blk_cell hRR8 1).trans (show _ = some (Value.slice none 0 0) from rfl)
      have f1_ := blk_frozen hRR8 1
      have s2 := (blk_cell hRR8 2).trans (show _ = some (Value.slice none 0 0) from rfl)
      have f2_ := blk_frozen hRR8 2
      have s3 := (blk_cell hRR8 3).trans (show _ = some (Value.slice none 0 0) from rfl)
      have f3_ := blk_frozen hRR8 3
      have s4 := (blk_cell hRR8 4).trans (show _ = some (Value.slice none 0 0) from rfl)
      have f4_ := blk_frozen hRR8 4
      have hwi := (((((Wi.refl w8 (w.heap.size + 1) (w.heap.size + 1 + 1)).trans (Wi.set _ _ 0 (.int .i64 s.ro))).trans (Wi.set _ _ 1 (.slice B0 s.lv.length d0))).trans (Wi.set _ _ 2 (.slice B1 s.ms.length d1))).trans (Wi.set _ _ 3 (.slice B2 s.ts.length d2))).trans (Wi.set _ _ 4 (.slice B3 s.bd.length d3))
      have HFF := hid (show (((((w8.setCell ⟨w.heap.size + 1, 0, none⟩ (.int .i64 s.ro)).setCell ⟨w.heap.size + 1, 1, none⟩ (.slice B0 s.lv.length d0)).setCell ⟨w.heap.size + 1, 2, none⟩ (.slice B1 s.ms.length d1)).setCell ⟨w.heap.size + 1, 3, none⟩ (.slice B2 s.ts.length d2)).setCell ⟨w.heap.size + 1, 4, none⟩ (.slice B3 s.bd.length d3)).heap[w.heap.size + 1]? = some (.cells #[.int .i64 s.ro, .slice B0 s.lv.length d0, .slice B1 s.ms.length d1, .slice B2 s.ts.length d2, .slice B3 s.bd.length d3] 29 (0, 0)) from (blk_set (blk_set (blk_set (blk_set (blk_set hRR8 0 (.int .i64 s.ro)) 1 (.slice B0 s.lv.length d0)) 2 (.slice B1 s.ms.length d1)) 3 (.slice B2 s.ts.length d2)) 4 (.slice B3 s.bd.length d3)))
      have HST := hid (StO_mono (hst.wi hwi (Or.inr (by omega))) (show w.heap.size ≤ _ by omega) (show _ ≤ (((((w8.setCell ⟨w.heap.size + 1, 0, none⟩ (.int .i64 s.ro)).setCell ⟨w.heap.size + 1, 1, none⟩ (.slice B0 s.lv.length d0)).setCell ⟨w.heap.size + 1, 2, none⟩ (.slice B1 s.ms.length d1)).setCell ⟨w.heap.size + 1, 3, none⟩ (.slice B2 s.ts.length d2)).setCell ⟨w.heap.size + 1, 4, none⟩ (.slice B3 s.bd.length d3)).heap.size from hwi.size))
      have HBF := hid (HB8.out.then_wi hwi (by omega))
      clear hwi hst hRR8 hlt8
      go_wp2
      refine bodyPost_ret (v := .tuple #[.agg #[.int .i64 s.ro, .slice B0 s.lv.length d0, .slice B1 s.ms.length d1, .slice B2 s.ts.length d2, .slice B3 s.bd.length d3], .bool false]) ?_ rfl ?_
      · exact results_ct (p := 4) (u := 5) rfl _ _ (w.heap.size + 1) 29 #[.int .i64 s.ro, .slice B0 s.lv.length d0, .slice B1 s.ms.length d1, .slice B2 s.ts.length d2, .slice B3 s.bd.length d3] (0, 0) _ rfl HFF.out Try.underlying29 rfl (by kernel_rfl)
      · exact ⟨.agg #[.int .i64 s.ro, .slice B0 s.lv.length d0, .slice B1 s.ms.length d1, .slice B2 s.ts.length d2, .slice B3 s.bd.length d3], by rw [← HOV.out, HOKB.out], by rw [← HRV.out, HOKB.out]; exact HST.out, HBF.out⟩
    | true =>
      have HOKB := hid (show refOk s i = true by rw [refOk, hbal, decide_eq_true hlt]; rfl)
      have HBAL := hid hbal
      clear hbal
      refine (impl_toBal s.ro E0 nl f0 (splitC s.lv i) _ HR6.out HBAL.out).mono ?_
      rintro e w7 ⟨rfl, b7⟩
      replace k0 := pw_cell_below b7.out k0
      replace k1 := pw_cell_below b7.out k1
      replace k2 := pw_cell_below b7.out k2
      replace k3 := pw_cell_below b7.out k3
      replace k4 := pw_cell_below b7.out k4
      have HB7 := hid (HB6.out.trans b7)
      have hRR7 := (b7.out.block _ (blk_lt HRR6.out)).trans HRR6.out
      have hst := (H6.out.to b7).sto (lo := W1.heap.size) (fun q hq => hq)
      rw [show (refS s i).ro = s.ro from rfl, HNL.out.1, HNL.out.2.1, HNL.out.2.2] at hst
      try rw [show (refS s i).bd.length = s.bd.length from rfl] at hst
      clear b7 HRR6 HB6 H6 HST6 HR6
      have s0 := (blk_cell hRR7 0).trans (show _ = some (Value.int .i64 0) from rfl)
      have f0_ := blk_frozen hRR7 0
      have s1 := (blk_cell hRR7 1).trans (show _ = some (Value.slice none 0 0) from rfl)
      have f1_ := blk_frozen hRR7 1
      have s2 := (blk_cell hRR7 2).trans (show _ = some (Value.slice none 0 0) from rfl)
      have f2_ := blk_frozen hRR7 2
      have s3 := (blk_cell hRR7 3).trans (show _ = some (Value.slice none 0 0) from rfl)
      have f3_ := blk_frozen hRR7 3
      have s4 := (blk_cell hRR7 4).trans (show _ = some (Value.slice none 0 0) from rfl)
      have f4_ := blk_frozen hRR7 4
      have hwi := (((((Wi.refl w7 (w.heap.size + 1) (w.heap.size + 1 + 1)).trans (Wi.set _ _ 0 (.int .i64 s.ro))).trans (Wi.set _ _ 1 (.slice E0 nl f0))).trans (Wi.set _ _ 2 (.slice E1 nm f1))).trans (Wi.set _ _ 3 (.slice E2 nt f2))).trans (Wi.set _ _ 4 (.slice B3 s.bd.length d3))
      have HFF := hid (show (((((w7.setCell ⟨w.heap.size + 1, 0, none⟩ (.int .i64 s.ro)).setCell ⟨w.heap.size + 1, 1, none⟩ (.slice E0 nl f0)).setCell ⟨w.heap.size + 1, 2, none⟩ (.slice E1 nm f1)).setCell ⟨w.heap.size + 1, 3, none⟩ (.slice E2 nt f2)).setCell ⟨w.heap.size + 1, 4, none⟩ (.slice B3 s.bd.length d3)).heap[w.heap.size + 1]? = some (.cells #[.int .i64 s.ro, .slice E0 nl f0, .slice E1 nm f1, .slice E2 nt f2, .slice B3 s.bd.length d3] 29 (0, 0)) from (blk_set (blk_set (blk_set (blk_set (blk_set hRR7 0 (.int .i64 s.ro)) 1 (.slice E0 nl f0)) 2 (.slice E1 nm f1)) 3 (.slice E2 nt f2)) 4 (.slice B3 s.bd.length d3)))
      have HST := hid (StO_mono (hst.wi hwi (Or.inr (by omega))) (show w.heap.size ≤ _ by omega) (show _ ≤ (((((w7.setCell ⟨w.heap.size + 1, 0, none⟩ (.int .i64 s.ro)).setCell ⟨w.heap.size + 1, 1, none⟩ (.slice E0 nl f0)).setCell ⟨w.heap.size + 1, 2, none⟩ (.slice E1 nm f1)).setCell ⟨w.heap.size + 1, 3, none⟩ (.slice E2 nt f2)).setCell ⟨w.heap.size + 1, 4, none⟩ (.slice B3 s.bd.length d3)).heap.size from hwi.size))
      have HBF := hid (HB7.out.then_wi hwi (by omega))
      clear hwi hst hRR7
      go_wp2
      refine bodyPost_ret (v := .tuple #[.agg #[.int .i64 s.ro, .slice E0 nl f0, .slice E1 nm f1, .slice E2 nt f2, .slice B3 s.bd.length d3], .bool true]) ?_ rfl ?_
      · exact results_ct (p := 4) (u := 5) rfl _ _ (w.heap.size + 1) 29 #[.int .i64 s.ro, .slice E0 nl f0, .slice E1 nm f1, .slice E2 nt f2, .slice B3 s.bd.length d3] (0, 0) _ rfl HFF.out Try.underlying29 rfl (by kernel_rfl)
      · exact ⟨.agg #[.int .i64 s.ro, .slice E0 nl f0, .slice E1 nm f1, .slice E2 nt f2, .slice B3 s.bd.length d3], by rw [← HOV.out, HOKB.out], by rw [← HRV.out, HOKB.out]; exact HST.out, HBF.out⟩
end Go.Proofs.Ytaidbdogolhnjaa.U
