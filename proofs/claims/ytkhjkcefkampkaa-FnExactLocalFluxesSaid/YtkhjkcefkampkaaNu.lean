
/- The reference's LocalFluxes. -/
import Derived.Test.YtkhjkcefkampkaaNt
import Derived.Test.YtkhjkcefkampkaaG19
set_option linter.unusedVariables false
set_option linter.unusedSimpArgs false
namespace Go.Proofs.Ytkhjkcefkampkaa.U
open Go.RowKit Go.Lib Go.Proofs.YtkhjkcefkampkaaW.PrintWords
open Go.Proofs.YtkhjkcefkampkaaW.PrintLast Go.Proofs.YtkhjkcefkampkaaW.PrintMore
theorem rowOf_snocU (k : Nat) (f : Nat → Int) : rowOf (k + 1) f = rowOf k f ++ [f k] := by
 rw [rowOf, rowOf, List.range_succ, List.map_append]
 rfl
theorem RI.past {w w' : World} {a : Addr} {n : Nat} {l : List Int} {row : Option Nat} (r : RI w (some a) n l) (hg : w.grownBy w' row) (h : some a.block ≠ row) : RI w' (some a) n l := ⟨⟨r.out.1, r.out.2.1, fun hn => by
 obtain ⟨ad, e, hc⟩ := r.out.2.2 hn
 obtain rfl := Option.some.inj e
 exact ⟨_, rfl, fun j hj => hg.cell (hc j hj) (by
  have e : (a.add j).block = a.block := by unfold Addr.add; split <;> rfl
  rw [e]
  exact h)⟩⟩⟩
set_option maxHeartbeats 8000000 in
set_option maxRecDepth 100000 in
theorem spec_LocalFluxes (ro fr : Int) (Al Am At Ab Ag : Option Addr) (n nm nt nb ng cl cm ct cb cg : Nat) (lv : List Ce) (ms bd gh : List Int) (t : Int) (w : World) (rl : IdR w Al n lv) (rm : RI w Am nm ms) (rb : RI w Ab nb bd) (rg : RI w Ag ng gh) (hcg : ng ≤ cg) (hn : n ≤ 1048576) (ht : t ≤ 9223372036854775807) :
  Calls Try.prog 16 #[.agg #[.int .i64 ro, .int .i64 fr, .slice Al n cl, .slice Am nm cm, .slice At nt ct, .slice Ab nb cb, .slice Ag ng cg], .int .i64 t] w fun e w' => ∃ v, e = .returned v ∧ OI w' w.heap.size v (locL lv ms bd gh t).length (locL lv ms bd gh t) ∧ Bw w w' := by
 have hln := rl.len
 have hlm := rm.len
 have hlb := rb.len
 have hlg := rg.len
 have b0 := Bw.box1 w (.cells #[.int .i64 ro, .int .i64 fr, .slice Al n cl, .slice Am nm cm, .slice At nt ct, .slice Ab nb cb, .slice Ag ng cg] 38)
 have g0 := box_cell (Bw.refl (w.alloc (.cells #[.int .i64 ro, .int .i64 fr, .slice Al n cl, .slice Am nm cm, .slice At nt ct, .slice Ab nb cb, .slice Ag ng cg] 38))) 0
 have g1 := box_cell (Bw.refl (w.alloc (.cells #[.int .i64 ro, .int .i64 fr, .slice Al n cl, .slice Am nm cm, .slice At nt ct, .slice Ab nb cb, .slice Ag ng cg] 38))) 1
 have g2 := box_cell (Bw.refl (w.alloc (.cells #[.int .i64 ro, .int .i64 fr, .slice Al n cl, .slice Am nm cm, .slice At nt ct, .slice Ab nb cb, .slice Ag ng cg] 38))) 2
 have g3 := box_cell (Bw.refl (w.alloc (.cells #[.int .i64 ro, .int .i64 fr, .slice Al n cl, .slice Am nm cm, .slice At nt ct, .slice Ab nb cb, .slice Ag ng cg] 38))) 3
 have g4 := box_cell (Bw.refl (w.alloc (.cells #[.int .i64 ro, .int .i64 fr, .slice Al n cl, .slice Am nm cm, .slice At nt ct, .slice Ab nb cb, .slice Ag ng cg] 38))) 4
 have g5 := box_cell (Bw.refl (w.alloc (.cells #[.int .i64 ro, .int .i64 fr, .slice Al n cl, .slice Am nm cm, .slice At nt ct, .slice Ab nb cb, .slice Ag ng cg] 38))) 5
 have g6 := box_cell (Bw.refl (w.alloc (.cells #[.int .i64 ro, .int .i64 fr, .slice Al n cl, .slice Am nm cm, .slice At nt ct, .slice Ab nb cb, .slice Ag ng cg] 38))) 6
 simp only [List.getElem?_toArray, List.getElem?_cons_zero, List.getElem?_cons_succ] at g0 g1 g2 g3 g4 g5 g6
 have hz1 : (w.alloc (.cells #[.int .i64 ro, .int .i64 fr, .slice Al n cl, .slice Am nm cm, .slice At nt ct, .slice Ab nb cb, .slice Ag ng cg] 38)).heap.size = w.heap.size + 1 := by simp
 have bL := Bw.box1 (w.alloc (.cells #[.int .i64 ro, .int .i64 fr, .slice Al n cl, .slice Am nm cm, .slice At nt ct, .slice Ab nb cb, .slice Ag ng cg] 38)) (.cells #[] 3)
 have hk0 := (bL.out.block _ (blk_lt (heap_alloc_new w (.cells #[.int .i64 ro, .int .i64 fr, .slice Al n cl, .slice Am nm cm, .slice At nt ct, .slice Ab nb cb, .slice Ag ng cg] 38 (0, 0))))).trans (heap_alloc_new w (.cells #[.int .i64 ro, .int .i64 fr, .slice Al n cl, .slice Am nm cm, .slice At nt ct, .slice Ab nb cb, .slice Ag ng cg] 38 (0, 0)))
 have hO0 : OI ((w.alloc (.cells #[.int .i64 ro, .int .i64 fr, .slice Al n cl, .slice Am nm cm, .slice At nt ct, .slice Ab nb cb, .slice Ag ng cg] 38)).alloc (.cells #[] 3)) (w.heap.size + 1) (.slice (some ⟨w.heap.size + 1, 0, none⟩) 0 0) 0 [] := by
  have h := OI.lit0 (w.alloc (.cells #[.int .i64 ro, .int .i64 fr, .slice Al n cl, .slice Am nm cm, .slice At nt ct, .slice Ab nb cb, .slice Ag ng cg] 38)) (w.heap.size + 1) (by simp)
  rwa [hz1] at h
 replace g0 := pw_cell_below bL.out g0
 replace g1 := pw_cell_below bL.out g1
 replace g2 := pw_cell_below bL.out g2
 replace g3 := pw_cell_below bL.out g3
 replace g4 := pw_cell_below bL.out g4
 replace g5 := pw_cell_below bL.out g5
 replace g6 := pw_cell_below bL.out g6
 have hB0 := b0.trans bL
 have hz2 : ((w.alloc (.cells #[.int .i64 ro, .int .i64 fr, .slice Al n cl, .slice Am nm cm, .slice At nt ct, .slice Ab nb cb, .slice Ag ng cg] 38)).alloc (.cells #[] 3)).heap.size = w.heap.size + 2 := by simp
 clear b0 bL hz1
 cases hu : usable lv ms bd gh with
 | false =>
  have HU := hid hu
  have HZ := hid (show locL lv ms bd gh t = [] by rw [locL, hu]; rfl)
  have HB0 := hid hB0
  have HO0 := hid (hO0.base (Nat.le_succ _))
  clear hu hB0 hO0 hk0 hz2 hln hlm hlb hlg
  go_enter Try.func16, Try.ntmps16
  go_upto_region 2 with fail
  generalize ((w.alloc (.cells #[.int .i64 ro, .int .i64 fr, .slice Al n cl, .slice Am nm cm, .slice At nt ct, .slice Ab nb cb, .slice Ag ng cg] 38)).alloc (.cells #[] 3)) = W1 at *
  go_wp2_with fail
  refine (spec_l24Usable ro fr Al Am At Ab Ag n nm nt nb ng cl cm ct cb cg lv ms bd gh _ (rl.to HB0.out) (rm.to HB0.out) (rb.to HB0.out) (rg.to HB0.out) hcg hn).mono ?_
  rintro e w1 ⟨rfl, b1⟩
  rw [HU.out]
  have HB1 := hid (HB0.out.trans b1)
  have HO1 := hid (HO0.out.to b1)
  clear b1
  go_wp2
  go_ret
  rw [HZ.out]
  exact ⟨_, rfl, HO1.out.base (by omega), HB1.out⟩
 | true =>
  have hup := usable_parts hu
  have HU := hid hu
  have HL := hid (locL_yes (t := t) hu)
  have HSD := hid (fun i => sdA_ok hu i)
  obtain rfl : nm = n := by omega
  obtain rfl : ng = 8 := by omega
  have HLV := hid hln
  have HUA := hid hup.2.2.2.1
  have HN1 := hid (show 1 ≤ nm by omega)
  obtain ⟨ag, rfl, hagc⟩ := rg.nat 0 (by omega)
  have HAG := hid (show ag.block < w.heap.size from block_lt_of_cell (show w.cell? ag = _ from hagc))
  have HHV := hid (halves ag cg hcg)
  have HLB := hid hlb
  have HK0 := hid hk0
  have HB0 := hid hB0
  have HO0 := hid (hO0.base (Nat.le_succ _))
  have HZ2 := hid hz2
  clear hu hup hB0 hO0 hk0 hz2 hln hlm hlb hlg hagc
  go_enter Try.func16, Try.ntmps16
  go_upto_region 2 with fail
  generalize ((w.alloc (.cells #[.int .i64 ro, .int .i64 fr, .slice Al nm cl, .slice Am nm cm, .slice At nt ct, .slice Ab nb cb, .slice (some ag) 8 cg] 38)).alloc (.cells #[] 3)) = W1 at *
  go_wp2_with fail
  refine (spec_l24Usable ro fr Al Am At Ab (some ag) nm nm nt nb 8 cl cm ct cb cg lv ms bd gh _ (rl.to HB0.out) (rm.to HB0.out) (rb.to HB0.out) (rg.to HB0.out) hcg hn).mono ?_
  rintro e w1 ⟨rfl, b1⟩
  rw [HU.out]
  have HB1 := hid (HB0.out.trans b1)
  have HO1 := hid (HO0.out.to b1)
  have HK1 := hid ((b1.out.block _ (blk_lt HK0.out)).trans HK0.out)
  replace g0 := pw_cell_below b1.out g0
  replace g1 := pw_cell_below b1.out g1
  replace g2 := pw_cell_below b1.out g2
  replace g3 := pw_cell_below b1.out g3
  replace g4 := pw_cell_below b1.out g4
  replace g5 := pw_cell_below b1.out g5
  replace g6 := pw_cell_below b1.out g6
  clear b1
  have s4 := HHV.out.1
  have HG6 := hid (show RI w (some ag) 4 (gh.take 4) from by
   have h := rg.sub 0 4 (by omega) (by omega)
   have ha0 : ag.add 0 = ag := rfl
   rwa [ha0, List.drop_zero] at h)
  have HS6 := hid (show ghS (gh.take 4) 0 = sdA lv ms bd gh 0 by
   have e : ∀ q : Nat, q < 4 → rd (gh.take 4) (q : Int) = rd gh (q : Int) := fun q hq => by
    rw [rd_nat, rd_nat, List.getD_eq_getElem?_getD, List.getD_eq_getElem?_getD, List.getElem?_take, if_pos hq]
   rw [sdA, if_pos rfl, ghS, ghS, e 0 (by omega), e 1 (by omega), e 2 (by omega), e 3 (by omega)])
  go_upto_region 5 with fail
  clear s4
  go_wp2
  clear g0 g1 g2 g3 g4 g5 g6
  go_loopw [5, 6, 7] (fun v5 v6 v7 wr => ∃ (j : Nat) (a6 : Addr) (c6 : Nat) (l6 : List Int), j ≤ nm ∧ v7 = .int .i64 j ∧ v6 = .slice (some a6) 4 c6 ∧ Hid (OI wr w.heap.size v5 j (rowOf j (locAt lv ms bd gh t))) ∧ Hid (Bw w wr) ∧ Hid (wr.heap[w.heap.size]? = some (.cells #[.int .i64 ro, .int .i64 fr, .slice Al nm cl, .slice Am nm cm, .slice At nt ct, .slice Ab nb cb, .slice (some ag) 8 cg] 38 (0, 0))) ∧ Hid (RI wr (some a6) 4 l6) ∧ Hid (ghS l6 0 = sdA lv ms bd gh j) ∧ Hid (some a6.block ≠ v5.ownBlock)) (fun _ _ v7 _ => nm - (intOf v7).toNat)
  case atStart => exact ⟨0, ag, cg, gh.take 4, by omega, rfl, rfl, HO1, HB1, HK1, hid (HG6.out.to HB1.out), HS6, hid (by have := HAG.out; intro e; have := Option.some.inj e; simp at this; omega)⟩
  case round =>
   obtain ⟨j, a6, c6, l6, hj, rfl, rfl, hO, hB, hK, hR, hS, hA⟩ := hrel
   have hkb0 := hK.out
   obtain ⟨Ao, co, rfl, _⟩ := hO.out.reads
   have g0 := (blk_cell hkb0 0).trans (show _ = some (Value.int .i64 ro) from rfl)
   have g1 := (blk_cell hkb0 1).trans (show _ = some (Value.int .i64 fr) from rfl)
   have g2 := (blk_cell hkb0 2).trans (show _ = some (Value.slice Al nm cl) from rfl)
   have g3 := (blk_cell hkb0 3).trans (show _ = some (Value.slice Am nm cm) from rfl)
   have g4 := (blk_cell hkb0 4).trans (show _ = some (Value.slice At nt ct) from rfl)
   have g5 := (blk_cell hkb0 5).trans (show _ = some (Value.slice Ab nb cb) from rfl)
   have g6 := (blk_cell hkb0 6).trans (show _ = some (Value.slice (some ag) 8 cg) from rfl)
   by_cases hlt : j < nm
   ·have t1 : decide ((j : Int) < (nm : Int)) = true := decide_eq_true (by omega)
    have t2 : decide (j < nm) = true := decide_eq_true hlt
    obtain ⟨al, rfl, x0, x1, x2⟩ := (rl.to hB.out).at j hlt
    obtain ⟨am, rfl, xm⟩ := (rm.to hB.out).nat j hlt
    obtain ⟨q0, q1, q2, hq⟩ : ∃ q0 q1 q2, gc lv j = ⟨q0, q1, q2⟩ := ⟨_, _, _, rfl⟩
    obtain ⟨m, hm⟩ : ∃ m, rd ms (j : Int) = m := ⟨_, rfl⟩
    have huo := use_ok (HUA.out j (by rw [HLV.out]; exact hlt))
    rw [hq] at x0 x1 x2 huo
    simp only at x0 x1 x2 huo
    rw [hm] at xm huo
    obtain ⟨k, hk⟩ : ∃ k : Nat, q0 = (k : Int) := ⟨q0.toNat, by have := huo.2.1.1; omega⟩
    subst hk
    have hkb : k < nb := by have := huo.2.1.2; have := HLB.out; omega
    obtain ⟨ab, rfl, xb⟩ := (rb.to hB.out).nat k hkb
    obtain ⟨b, hb⟩ : ∃ b, rd bd (k : Int) = b := ⟨_, rfl⟩
    rw [hb] at xb huo
    have hmr := huo.2.2.1
    have hbr := huo.2.2.2.1
    have hq1 := huo.2.2.2.2
    have HSN0 := hid (show lfS lv ms bd j = ⟨1, q1, m, b + m * pow2 q1⟩ by rw [lfS, hq, hm]; simp only; rw [hb])
    have HOKL := hid huo.1
    have e1 : IntKind.i64.wrap ((j : Int) + 1) = (j : Int) + 1 := i64w (by omega) (by omega)
    have hkk := hid (show j + 1 ≤ nm ∧ nm - (j + 1) < nm - j by clear e1; omega)
    have i0 : (0 : Int) ≤ (j : Int) := by omega
    have i1 : (j : Int) < (nm : Int) := by omega
    have k0 : (0 : Int) ≤ (k : Int) := by omega
    have k1 : (k : Int) < (nb : Int) := by omega
    have hkb2 : k < nb := hkb
    have bx := Bw.box1 wr (.cells #[.int .i64 (k : Int), .int .i64 q1, .int .i64 q2] 70)
    have y0 := box_cell (Bw.refl (wr.alloc (.cells #[.int .i64 (k : Int), .int .i64 q1, .int .i64 q2] 70))) 0
    have y1 := box_cell (Bw.refl (wr.alloc (.cells #[.int .i64 (k : Int), .int .i64 q1, .int .i64 q2] 70))) 1
    simp only [List.getElem?_toArray, List.getElem?_cons_zero, List.getElem?_cons_succ] at y0 y1
    clear hq hm hb huo hkb0 g0 g1 g4
    go_upto_region 9 with fail
    replace g3 := pw_cell_below bx.out g3
    replace g5 := pw_cell_below bx.out g5
    replace xm := pw_cell_below bx.out xm
    replace xb := pw_cell_below bx.out xb
    have HBX := hid bx
    clear bx x0 x1 x2 g2 g6
    generalize (wr.alloc (.cells #[.int .i64 (k : Int), .int .i64 q1, .int .i64 q2] 70)) = W2 at *
    go_cut [9] from 30 to 53 (fun v9 wx => ∃ (G : Nat) (L6 : List Int), v9 = .slice (some ⟨G, 0, none⟩) 4 4 ∧ Hid (W2.heap.size ≤ G) ∧ Hid (OI wx W2.heap.size (.slice (some ⟨G, 0, none⟩) 4 4) 4 L6) ∧ Hid (ghS L6 0 = lfS lv ms bd j) ∧ Hid (Bw W2 wx))
    case first =>
     have h5 : q1 = 0 ∨ q1 = 1 ∨ q1 = 2 ∨ q1 = 3 ∨ q1 = 4 := by clear e1; omega
     rcases h5 with rfl | rfl | rfl | rfl | rfl
     ·have hmr' := hmr
      obtain ⟨mp, hmp⟩ : ∃ mp, m * 1 = mp := ⟨_, rfl⟩
      have hmpb : 0 ≤ mp ∧ mp ≤ 160000000 := by clear e1; omega
      obtain ⟨s, hs⟩ : ∃ s, b + mp = s := ⟨_, rfl⟩
      have HSN := hid (show lfS lv ms bd j = ⟨1, 0, m, s⟩ by rw [HSN0.out, show pow2 0 = 1 from rfl, hmp, hs])
      have hm1 : m = mp := by clear e1; omega
      subst hm1
      have eA : wrap64 m = m := w64 (by clear e1 hmp hs; omega) (by clear e1 hmp hs; omega)
      have eB : IntKind.i64.wrap m = m := i64w (by clear e1 eA hmp hs; omega) (by clear e1 eA hmp hs; omega)
      have eC : wrap64 (b + m) = s := by rw [hs]; exact w64 (by clear e1 eA eB; omega) (by clear e1 eA eB; omega)
      have eD : IntKind.i64.wrap (b + m) = s := by rw [hs]; exact i64w (by clear e1 eA eB eC; omega) (by clear e1 eA eB eC; omega)
      have eS : (2 : Int) ^ min (IntKind.u64.wrap 0).toNat 64 = 1 := by rfl
      clear hmp hs hmr'
      refine start_ (n := 25) (S := fun w' => w'.cell? ⟨wr.heap.size, 0, none⟩ = some (.int .i64 (k : Int)) ∧ w'.cell? ⟨wr.heap.size, 1, none⟩ = some (.int .i64 0) ∧ w'.cell? ⟨w.heap.size, 3, none⟩ = some (.slice (some am) nm cm) ∧ w'.cell? ⟨w.heap.size, 5, none⟩ = some (.slice (some ab) nb cb) ∧ w'.cell? (am.add j) = some (.int .i64 m) ∧ w'.cell? (ab.add k) = some (.int .i64 b)) (ds := [23, 24]) #[false, false, false, false, false, false, false, false, false, false, false, false, false, false, false, false, false, false, false, false, false, false, false, false, false] (by kernel_rfl) rfl rfl ⟨y0, y1, g3, g5, xm, xb⟩ (fun hHeld => ?_)
      have bD := Bw.drawn (a := W2) ⟨⟨1, rfl⟩⟩
      refine pq_ (i := 0) (N := (some 30)) (v := ?_) (a' := ?_) rfl rfl (by kernel_rfl) (fun _ _ _ h => h) (Or.inl ⟨by rfl, ?_⟩) ?_ ?_
      rotate_left; (intro w'; go_simp; with_reducible rfl); rotate_left; (simp only [Act.put, s1_, s2_, s3_, i64_w, i32_w]; rfl)
      refine tq_ (i := 1) (N := (some 31)) (v := ?_) (a' := ?_) rfl rfl (by kernel_rfl) (fun _ _ _ h => h) (Or.inl ⟨by rfl, ?_⟩) hHeld ?_ ?_
      rotate_left; (rintro w' ⟨s0, s1, s2, s3, s4, s5⟩; go_simp; with_reducible rfl); rotate_left; (simp only [Act.put, s1_, s2_, s3_, i64_w, i32_w]; rfl)
      refine pq_ (i := 2) (N := (some 32)) (v := ?_) (a' := ?_) rfl rfl (by kernel_rfl) (fun _ _ _ h => h) (Or.inl ⟨by rfl, ?_⟩) ?_ ?_
      rotate_left; (intro w'; go_simp; with_reducible rfl); rotate_left; (simp only [Act.put, s1_, s2_, s3_, i64_w, i32_w]; rfl)
      refine tq_ (i := 3) (N := (some 33)) (v := ?_) (a' := ?_) rfl rfl (by kernel_rfl) (fun _ _ _ h => h) (Or.inl ⟨by rfl, ?_⟩) hHeld ?_ ?_
      rotate_left; (rintro w' ⟨s0, s1, s2, s3, s4, s5⟩; go_simp; with_reducible rfl); rotate_left; (simp only [Act.put, s1_, s2_, s3_, i64_w, i32_w]; rfl)
      refine pq_ (i := 4) (N := (some 34)) (v := ?_) (a' := ?_) rfl rfl (by kernel_rfl) (fun _ _ _ h => h) (Or.inl ⟨by rfl, ?_⟩) ?_ ?_
      rotate_left; (intro w'; go_simp; with_reducible rfl); rotate_left; (simp only [Act.put, s1_, s2_, s3_, i64_w, i32_w]; rfl)
      refine pq_ (i := 5) (N := (some 35)) (v := ?_) (a' := ?_) rfl rfl (by kernel_rfl) (fun _ _ _ h => h) (Or.inl ⟨by rfl, ?_⟩) ?_ ?_
      rotate_left; (intro w'; go_simp; with_reducible rfl); rotate_left; (simp only [Act.put, s1_, s2_, s3_, i64_w, i32_w]; rfl)
      refine tq_ (i := 6) (N := (some 36)) (v := ?_) (a' := ?_) rfl rfl (by kernel_rfl) (fun _ _ _ h => h) (Or.inl ⟨by rfl, ?_⟩) hHeld ?_ ?_
      rotate_left; (rintro w' ⟨s0, s1, s2, s3, s4, s5⟩; go_simp; with_reducible rfl); rotate_left; (simp only [Act.put, s1_, s2_, s3_, i64_w, i32_w]; rfl)
      refine pq_ (i := 7) (N := (some 37)) (v := ?_) (a' := ?_) rfl rfl (by kernel_rfl) (fun _ _ _ h => h) (Or.inl ⟨by rfl, ?_⟩) ?_ ?_
      rotate_left; (intro w'; go_simp; with_reducible rfl); rotate_left; (simp only [Act.put, s1_, s2_, s3_, i64_w, i32_w]; rfl)
      refine tq_ (i := 8) (N := (some 38)) (v := ?_) (a' := ?_) rfl rfl (by kernel_rfl) (fun _ _ _ h => h) (Or.inl ⟨by rfl, ?_⟩) hHeld ?_ ?_
      rotate_left; (rintro w' ⟨s0, s1, s2, s3, s4, s5⟩; go_simp; with_reducible rfl); rotate_left; (simp only [Act.put, s1_, s2_, s3_, i64_w, i32_w]; rfl)
      refine pq_ (i := 9) (N := (some 39)) (v := ?_) (a' := ?_) rfl rfl (by kernel_rfl) (fun _ _ _ h => h) (Or.inl ⟨by rfl, ?_⟩) ?_ ?_
      rotate_left; (intro w'; go_simp; with_reducible rfl); rotate_left; (simp only [Act.put, s1_, s2_, s3_, i64_w, i32_w]; rfl)
      refine tq_ (i := 10) (N := (some 40)) (v := ?_) (a' := ?_) rfl rfl (by kernel_rfl) (fun _ _ _ h => h) (Or.inl ⟨by rfl, ?_⟩) hHeld ?_ ?_
      rotate_left; (rintro w' ⟨s0, s1, s2, s3, s4, s5⟩; go_simp; with_reducible rfl); rotate_left; (simp only [Act.put, s1_, s2_, s3_, i64_w, i32_w]; rfl)
      refine pq_ (i := 11) (N := (some 41)) (v := ?_) (a' := ?_) rfl rfl (by kernel_rfl) (fun _ _ _ h => h) (Or.inl ⟨by rfl, ?_⟩) ?_ ?_
      rotate_left; (intro w'; go_simp; with_reducible rfl); rotate_left; (simp only [Act.put, s1_, s2_, s3_, i64_w, i32_w]; rfl)
      refine tq_ (i := 12) (N := (some 42)) (v := ?_) (a' := ?_) rfl rfl (by kernel_rfl) (fun _ _ _ h => h) (Or.inl ⟨by rfl, ?_⟩) hHeld ?_ ?_
      rotate_left; (rintro w' ⟨s0, s1, s2, s3, s4, s5⟩; go_simp; with_reducible rfl); rotate_left; (simp only [Act.put, s1_, s2_, s3_, i64_w, i32_w]; rfl)
      refine pq_ (i := 13) (N := (some 43)) (v := ?_) (a' := ?_) rfl rfl (by kernel_rfl) (fun _ _ _ h => h) (Or.inl ⟨by rfl, ?_⟩) ?_ ?_
      rotate_left; (intro w'; go_simp; with_reducible rfl); rotate_left; (simp only [Act.put, s1_, s2_, s3_, i64_w, i32_w]; rfl)
      refine tq_ (i := 14) (N := (some 44)) (v := ?_) (a' := ?_) rfl rfl (by kernel_rfl) (fun _ _ _ h => h) (Or.inl ⟨by rfl, ?_⟩) hHeld ?_ ?_
      rotate_left; (rintro w' ⟨s0, s1, s2, s3, s4, s5⟩; go_simp; with_reducible rfl); rotate_left; (simp only [Act.put, s1_, s2_, s3_, i64_w, i32_w]; rfl)
      refine pq_ (i := 15) (N := (some 45)) (v := ?_) (a' := ?_) rfl rfl (by kernel_rfl) (fun _ _ _ h => h) (Or.inl ⟨by rfl, ?_⟩) ?_ ?_
      rotate_left; (intro w'; go_simp; with_reducible rfl); rotate_left; (simp only [Act.put, s1_, s2_, s3_, i64_w, i32_w]; rfl)
      refine pq_ (i := 16) (N := (some 46)) (v := ?_) (a' := ?_) rfl rfl (by kernel_rfl) (fun _ _ _ h => h) (Or.inl ⟨by rfl, ?_⟩) ?_ ?_
      rotate_left; (intro w'; go_simp; with_reducible rfl); rotate_left; (simp only [Act.put, s1_, s2_, s3_, i64_w, i32_w]; rfl)
      refine tq_ (i := 17) (N := (some 47)) (v := ?_) (a' := ?_) rfl rfl (by kernel_rfl) (fun _ _ _ h => h) (Or.inl ⟨by rfl, ?_⟩) hHeld ?_ ?_
      rotate_left; (rintro w' ⟨s0, s1, s2, s3, s4, s5⟩; go_simp; with_reducible rfl); rotate_left; (simp only [Act.put, s1_, s2_, s3_, i64_w, i32_w]; rfl)
      refine pq_ (i := 18) (N := (some 48)) (v := ?_) (a' := ?_) rfl rfl (by kernel_rfl) (fun _ _ _ h => h) (Or.inl ⟨by rfl, ?_⟩) ?_ ?_
      rotate_left; (intro w'; go_simp; with_reducible rfl); rotate_left; (simp only [Act.put, s1_, s2_, s3_, i64_w, i32_w]; rfl)
      refine tq_ (i := 19) (N := (some 49)) (v := ?_) (a' := ?_) rfl rfl (by kernel_rfl) (fun _ _ _ h => h) (Or.inl ⟨by rfl, ?_⟩) hHeld ?_ ?_
      rotate_left; (rintro w' ⟨s0, s1, s2, s3, s4, s5⟩; go_simp; with_reducible rfl); rotate_left; (simp only [Act.put, s1_, s2_, s3_, i64_w, i32_w]; rfl)
      refine pq_ (i := 20) (N := (some 50)) (v := ?_) (a' := ?_) rfl rfl (by kernel_rfl) (fun _ _ _ h => h) (Or.inl ⟨by rfl, ?_⟩) ?_ ?_
      rotate_left; (intro w'; go_simp; with_reducible rfl); rotate_left; (simp only [Act.put, s1_, s2_, s3_, i64_w, i32_w]; rfl)
      refine pq_ (i := 21) (N := (some 51)) (v := ?_) (a' := ?_) rfl rfl (by kernel_rfl) (fun _ _ _ h => h) (Or.inl ⟨by rfl, ?_⟩) ?_ ?_
      rotate_left; (intro w'; go_simp; with_reducible rfl); rotate_left; (simp only [Act.put, s1_, s2_, s3_, i64_w, i32_w]; rfl)
      refine pq_ (i := 22) (N := (some 52)) (v := ?_) (a' := ?_) rfl rfl (by kernel_rfl) (fun _ _ _ h => h) (Or.inl ⟨by rfl, ?_⟩) ?_ ?_
      rotate_left; (intro w'; go_simp; with_reducible rfl); rotate_left; (simp only [Act.put, s1_, s2_, s3_, i64_w, i32_w]; rfl)
      clear hHeld
      refine last_ (i := 23) (N := (some 53)) #[true, true, true, true, true, true, true, true, true, true, true, true, true, true, true, true, true, true, true, true, true, true, true, true, false] rfl rfl (by kernel_rfl) (by decide) (fun K hK => ?_)
      refine value_ (w1 := ?_) (v := ?_) (by rfl) rfl ?_ ?_
      rotate_left 2
      ·go_simp
       constructor
       ·rfl
       ·rfl
      refine hK.out _ _ ?_
      clear hK K; refine norm_ (a' := ?_) ?_ ?_; rotate_left; (show Act.put _ (some 53) _ = _; simp only [Act.put, s1_, s2_, s3_, i64_w, i32_w]; rfl)
      refine last_ (i := 24) (N := (some 9)) #[true, true, true, true, true, true, true, true, true, true, true, true, true, true, true, true, true, true, true, true, true, true, true, true, true] rfl rfl (by kernel_rfl) (by decide) (fun K hK => ?_)
      refine value_ (w1 := ?_) (v := ?_) (by rfl) rfl ?_ ?_
      rotate_left 2
      ·go_simp
       constructor
       ·rfl
       ·rfl
      refine hK.out _ _ ?_
      clear hK K; refine norm_ (a' := ?_) ?_ ?_; rotate_left; (show Act.put _ (some 9) _ = _; simp only [Act.put, s1_, s2_, s3_, i64_w, i32_w]; rfl)
      refine done_ (by kernel_rfl) ?_
      have oN : OI ((W2.drewN 1).alloc (.cells #[.int .i64 1, .int .i64 0, .int .i64 m, .int .i64 s] 3)) W2.heap.size (.slice (some ⟨W2.heap.size, 0, none⟩) 4 4) 4 [1, 0, m, s] := ⟨own_lit (W2.drewN 1) W2.heap.size 3 .i64 [1, 0, m, s] (Nat.le_refl _) (by simp)⟩
      have bN := bD.trans (Bw.box1 (W2.drewN 1) (.cells #[.int .i64 1, .int .i64 0, .int .i64 m, .int .i64 s] 3))
      have HSI := hid (show ghS [1, 0, m, s] 0 = lfS lv ms bd j by rw [HSN.out]; rfl)
      go_wp2
      go_meet
      case rel => exact ⟨_, _, rfl, hid (Nat.le_refl _), hid oN, HSI, hid bN⟩
     ·have hmr' := hmr
      obtain ⟨mp, hmp⟩ : ∃ mp, m * 2 = mp := ⟨_, rfl⟩
      have hmpb : 0 ≤ mp ∧ mp ≤ 160000000 := by clear e1; omega
      obtain ⟨s, hs⟩ : ∃ s, b + mp = s := ⟨_, rfl⟩
      have HSN := hid (show lfS lv ms bd j = ⟨1, 1, m, s⟩ by rw [HSN0.out, show pow2 1 = 2 from rfl, hmp, hs])
      have eA : wrap64 (m * 2) = mp := by rw [hmp]; exact w64 (by clear e1 hmp hs; omega) (by clear e1 hmp hs; omega)
      have eB : IntKind.i64.wrap (m * 2) = mp := by rw [hmp]; exact i64w (by clear e1 eA hmp hs; omega) (by clear e1 eA hmp hs; omega)
      have eC : wrap64 (b + mp) = s := by rw [hs]; exact w64 (by clear e1 eA eB; omega) (by clear e1 eA eB; omega)
      have eD : IntKind.i64.wrap (b + mp) = s := by rw [hs]; exact i64w (by clear e1 eA eB eC; omega) (by clear e1 eA eB eC; omega)
      have eS : (2 : Int) ^ min (IntKind.u64.wrap 1).toNat 64 = 2 := by rfl
      clear hmp hs hmr'
      refine start_ (n := 25) (S := fun w' => w'.cell? ⟨wr.heap.size, 0, none⟩ = some (.int .i64 (k : Int)) ∧ w'.cell? ⟨wr.heap.size, 1, none⟩ = some (.int .i64 1) ∧ w'.cell? ⟨w.heap.size, 3, none⟩ = some (.slice (some am) nm cm) ∧ w'.cell? ⟨w.heap.size, 5, none⟩ = some (.slice (some ab) nb cb) ∧ w'.cell? (am.add j) = some (.int .i64 m) ∧ w'.cell? (ab.add k) = some (.int .i64 b)) (ds := [23, 24]) #[false, false, false, false, false, false, false, false, false, false, false, false, false, false, false, false, false, false, false, false, false, false, false, false, false] (by kernel_rfl) rfl rfl ⟨y0, y1, g3, g5, xm, xb⟩ (fun hHeld => ?_)
      have bD := Bw.drawn (a := W2) ⟨⟨1, rfl⟩⟩
      refine pq_ (i := 0) (N := (some 30)) (v := ?_) (a' := ?_) rfl rfl (by kernel_rfl) (fun _ _ _ h => h) (Or.inl ⟨by rfl, ?_⟩) ?_ ?_
      rotate_left; (intro w'; go_simp; with_reducible rfl); rotate_left; (simp only [Act.put, s1_, s2_, s3_, i64_w, i32_w]; rfl)
      refine tq_ (i := 1) (N := (some 31)) (v := ?_) (a' := ?_) rfl rfl (by kernel_rfl) (fun _ _ _ h => h) (Or.inl ⟨by rfl, ?_⟩) hHeld ?_ ?_
      rotate_left; (rintro w' ⟨s0, s1, s2, s3, s4, s5⟩; go_simp; with_reducible rfl); rotate_left; (simp only [Act.put, s1_, s2_, s3_, i64_w, i32_w]; rfl)
      refine pq_ (i := 2) (N := (some 32)) (v := ?_) (a' := ?_) rfl rfl (by kernel_rfl) (fun _ _ _ h => h) (Or.inl ⟨by rfl, ?_⟩) ?_ ?_
      rotate_left; (intro w'; go_simp; with_reducible rfl); rotate_left; (simp only [Act.put, s1_, s2_, s3_, i64_w, i32_w]; rfl)
      refine tq_ (i := 3) (N := (some 33)) (v := ?_) (a' := ?_) rfl rfl (by kernel_rfl) (fun _ _ _ h => h) (Or.inl ⟨by rfl, ?_⟩) hHeld ?_ ?_
      rotate_left; (rintro w' ⟨s0, s1, s2, s3, s4, s5⟩; go_simp; with_reducible rfl); rotate_left; (simp only [Act.put, s1_, s2_, s3_, i64_w, i32_w]; rfl)
      refine pq_ (i := 4) (N := (some 34)) (v := ?_) (a' := ?_) rfl rfl (by kernel_rfl) (fun _ _ _ h => h) (Or.inl ⟨by rfl, ?_⟩) ?_ ?_
      rotate_left; (intro w'; go_simp; with_reducible rfl); rotate_left; (simp only [Act.put, s1_, s2_, s3_, i64_w, i32_w]; rfl)
      refine pq_ (i := 5) (N := (some 35)) (v := ?_) (a' := ?_) rfl rfl (by kernel_rfl) (fun _ _ _ h => h) (Or.inl ⟨by rfl, ?_⟩) ?_ ?_
      rotate_left; (intro w'; go_simp; with_reducible rfl); rotate_left; (simp only [Act.put, s1_, s2_, s3_, i64_w, i32_w]; rfl)
      refine tq_ (i := 6) (N := (some 36)) (v := ?_) (a' := ?_) rfl rfl (by kernel_rfl) (fun _ _ _ h => h) (Or.inl ⟨by rfl, ?_⟩) hHeld ?_ ?_
      rotate_left; (rintro w' ⟨s0, s1, s2, s3, s4, s5⟩; go_simp; with_reducible rfl); rotate_left; (simp only [Act.put, s1_, s2_, s3_, i64_w, i32_w]; rfl)
      refine pq_ (i := 7) (N := (some 37)) (v := ?_) (a' := ?_) rfl rfl (by kernel_rfl) (fun _ _ _ h => h) (Or.inl ⟨by rfl, ?_⟩) ?_ ?_
      rotate_left; (intro w'; go_simp; with_reducible rfl); rotate_left; (simp only [Act.put, s1_, s2_, s3_, i64_w, i32_w]; rfl)
      refine tq_ (i := 8) (N := (some 38)) (v := ?_) (a' := ?_) rfl rfl (by kernel_rfl) (fun _ _ _ h => h) (Or.inl ⟨by rfl, ?_⟩) hHeld ?_ ?_
      rotate_left; (rintro w' ⟨s0, s1, s2, s3, s4, s5⟩; go_simp; with_reducible rfl); rotate_left; (simp only [Act.put, s1_, s2_, s3_, i64_w, i32_w]; rfl)
      refine pq_ (i := 9) (N := (some 39)) (v := ?_) (a' := ?_) rfl rfl (by kernel_rfl) (fun _ _ _ h => h) (Or.inl ⟨by rfl, ?_⟩) ?_ ?_
      rotate_left; (intro w'; go_simp; with_reducible rfl); rotate_left; (simp only [Act.put, s1_, s2_, s3_, i64_w, i32_w]; rfl)
      refine tq_ (i := 10) (N := (some 40)) (v := ?_) (a' := ?_) rfl rfl (by kernel_rfl) (fun _ _ _ h => h) (Or.inl ⟨by rfl, ?_⟩) hHeld ?_ ?_
      rotate_left; (rintro w' ⟨s0, s1, s2, s3, s4, s5⟩; go_simp; with_reducible rfl); rotate_left; (simp only [Act.put, s1_, s2_, s3_, i64_w, i32_w]; rfl)
      refine pq_ (i := 11) (N := (some 41)) (v := ?_) (a' := ?_) rfl rfl (by kernel_rfl) (fun _ _ _ h => h) (Or.inl ⟨by rfl, ?_⟩) ?_ ?_
      rotate_left; (intro w'; go_simp; with_reducible rfl); rotate_left; (simp only [Act.put, s1_, s2_, s3_, i64_w, i32_w]; rfl)
      refine tq_ (i := 12) (N := (some 42)) (v := ?_) (a' := ?_) rfl rfl (by kernel_rfl) (fun _ _ _ h => h) (Or.inl ⟨by rfl, ?_⟩) hHeld ?_ ?_
      rotate_left; (rintro w' ⟨s0, s1, s2, s3, s4, s5⟩; go_simp; with_reducible rfl); rotate_left; (simp only [Act.put, s1_, s2_, s3_, i64_w, i32_w]; rfl)
      refine pq_ (i := 13) (N := (some 43)) (v := ?_) (a' := ?_) rfl rfl (by kernel_rfl) (fun _ _ _ h => h) (Or.inl ⟨by rfl, ?_⟩) ?_ ?_
      rotate_left; (intro w'; go_simp; with_reducible rfl); rotate_left; (simp only [Act.put, s1_, s2_, s3_, i64_w, i32_w]; rfl)
      refine tq_ (i := 14) (N := (some 44)) (v := ?_) (a' := ?_) rfl rfl (by kernel_rfl) (fun _ _ _ h => h) (Or.inl ⟨by rfl, ?_⟩) hHeld ?_ ?_
      rotate_left; (rintro w' ⟨s0, s1, s2, s3, s4, s5⟩; go_simp; with_reducible rfl); rotate_left; (simp only [Act.put, s1_, s2_, s3_, i64_w, i32_w]; rfl)
      refine pq_ (i := 15) (N := (some 45)) (v := ?_) (a' := ?_) rfl rfl (by kernel_rfl) (fun _ _ _ h => h) (Or.inl ⟨by rfl, ?_⟩) ?_ ?_
      rotate_left; (intro w'; go_simp; with_reducible rfl); rotate_left; (simp only [Act.put, s1_, s2_, s3_, i64_w, i32_w]; rfl)
      refine pq_ (i := 16) (N := (some 46)) (v := ?_) (a' := ?_) rfl rfl (by kernel_rfl) (fun _ _ _ h => h) (Or.inl ⟨by rfl, ?_⟩) ?_ ?_
      rotate_left; (intro w'; go_simp; with_reducible rfl); rotate_left; (simp only [Act.put, s1_, s2_, s3_, i64_w, i32_w]; rfl)
      refine tq_ (i := 17) (N := (some 47)) (v := ?_) (a' := ?_) rfl rfl (by kernel_rfl) (fun _ _ _ h => h) (Or.inl ⟨by rfl, ?_⟩) hHeld ?_ ?_
      rotate_left; (rintro w' ⟨s0, s1, s2, s3, s4, s5⟩; go_simp; with_reducible rfl); rotate_left; (simp only [Act.put, s1_, s2_, s3_, i64_w, i32_w]; rfl)
      refine pq_ (i := 18) (N := (some 48)) (v := ?_) (a' := ?_) rfl rfl (by kernel_rfl) (fun _ _ _ h => h) (Or.inl ⟨by rfl, ?_⟩) ?_ ?_
      rotate_left; (intro w'; go_simp; with_reducible rfl); rotate_left; (simp only [Act.put, s1_, s2_, s3_, i64_w, i32_w]; rfl)
      refine tq_ (i := 19) (N := (some 49)) (v := ?_) (a' := ?_) rfl rfl (by kernel_rfl) (fun _ _ _ h => h) (Or.inl ⟨by rfl, ?_⟩) hHeld ?_ ?_
      rotate_left; (rintro w' ⟨s0, s1, s2, s3, s4, s5⟩; go_simp; with_reducible rfl); rotate_left; (simp only [Act.put, s1_, s2_, s3_, i64_w, i32_w]; rfl)
      refine pq_ (i := 20) (N := (some 50)) (v := ?_) (a' := ?_) rfl rfl (by kernel_rfl) (fun _ _ _ h => h) (Or.inl ⟨by rfl, ?_⟩) ?_ ?_
      rotate_left; (intro w'; go_simp; with_reducible rfl); rotate_left; (simp only [Act.put, s1_, s2_, s3_, i64_w, i32_w]; rfl)
      refine pq_ (i := 21) (N := (some 51)) (v := ?_) (a' := ?_) rfl rfl (by kernel_rfl) (fun _ _ _ h => h) (Or.inl ⟨by rfl, ?_⟩) ?_ ?_
      rotate_left; (intro w'; go_simp; with_reducible rfl); rotate_left; (simp only [Act.put, s1_, s2_, s3_, i64_w, i32_w]; rfl)
      refine pq_ (i := 22) (N := (some 52)) (v := ?_) (a' := ?_) rfl rfl (by kernel_rfl) (fun _ _ _ h => h) (Or.inl ⟨by rfl, ?_⟩) ?_ ?_
      rotate_left; (intro w'; go_simp; with_reducible rfl); rotate_left; (simp only [Act.put, s1_, s2_, s3_, i64_w, i32_w]; rfl)
      clear hHeld
      refine last_ (i := 23) (N := (some 53)) #[true, true, true, true, true, true, true, true, true, true, true, true, true, true, true, true, true, true, true, true, true, true, true, true, false] rfl rfl (by kernel_rfl) (by decide) (fun K hK => ?_)
      refine value_ (w1 := ?_) (v := ?_) (by rfl) rfl ?_ ?_
      rotate_left 2
      ·go_simp
       constructor
       ·rfl
       ·rfl
      refine hK.out _ _ ?_
      clear hK K; refine norm_ (a' := ?_) ?_ ?_; rotate_left; (show Act.put _ (some 53) _ = _; simp only [Act.put, s1_, s2_, s3_, i64_w, i32_w]; rfl)
      refine last_ (i := 24) (N := (some 9)) #[true, true, true, true, true, true, true, true, true, true, true, true, true, true, true, true, true, true, true, true, true, true, true, true, true] rfl rfl (by kernel_rfl) (by decide) (fun K hK => ?_)
      refine value_ (w1 := ?_) (v := ?_) (by rfl) rfl ?_ ?_
      rotate_left 2
      ·go_simp
       constructor
       ·rfl
       ·rfl
      refine hK.out _ _ ?_
      clear hK K; refine norm_ (a' := ?_) ?_ ?_; rotate_left; (show Act.put _ (some 9) _ = _; simp only [Act.put, s1_, s2_, s3_, i64_w, i32_w]; rfl)
      refine done_ (by kernel_rfl) ?_
      have oN : OI ((W2.drewN 1).alloc (.cells #[.int .i64 1, .int .i64 1, .int .i64 m, .int .i64 s] 3)) W2.heap.size (.slice (some ⟨W2.heap.size, 0, none⟩) 4 4) 4 [1, 1, m, s] := ⟨own_lit (W2.drewN 1) W2.heap.size 3 .i64 [1, 1, m, s] (Nat.le_refl _) (by simp)⟩
      have bN := bD.trans (Bw.box1 (W2.drewN 1) (.cells #[.int .i64 1, .int .i64 1, .int .i64 m, .int .i64 s] 3))
      have HSI := hid (show ghS [1, 1, m, s] 0 = lfS lv ms bd j by rw [HSN.out]; rfl)
      go_wp2
      go_meet
      case rel => exact ⟨_, _, rfl, hid (Nat.le_refl _), hid oN, HSI, hid bN⟩
     ·have hmr' := hmr
      obtain ⟨mp, hmp⟩ : ∃ mp, m * 4 = mp := ⟨_, rfl⟩
      have hmpb : 0 ≤ mp ∧ mp ≤ 160000000 := by clear e1; omega
      obtain ⟨s, hs⟩ : ∃ s, b + mp = s := ⟨_, rfl⟩
      have HSN := hid (show lfS lv ms bd j = ⟨1, 2, m, s⟩ by rw [HSN0.out, show pow2 2 = 4 from rfl, hmp, hs])
      have eA : wrap64 (m * 4) = mp := by rw [hmp]; exact w64 (by clear e1 hmp hs; omega) (by clear e1 hmp hs; omega)
      have eB : IntKind.i64.wrap (m * 4) = mp := by rw [hmp]; exact i64w (by clear e1 eA hmp hs; omega) (by clear e1 eA hmp hs; omega)
      have eC : wrap64 (b + mp) = s := by rw [hs]; exact w64 (by clear e1 eA eB; omega) (by clear e1 eA eB; omega)
      have eD : IntKind.i64.wrap (b + mp) = s := by rw [hs]; exact i64w (by clear e1 eA eB eC; omega) (by clear e1 eA eB eC; omega)
      have eS : (2 : Int) ^ min (IntKind.u64.wrap 2).toNat 64 = 4 := by rfl
      clear hmp hs hmr'
      refine start_ (n := 25) (S := fun w' => w'.cell? ⟨wr.heap.size, 0, none⟩ = some (.int .i64 (k : Int)) ∧ w'.cell? ⟨wr.heap.size, 1, none⟩ = some (.int .i64 2) ∧ w'.cell? ⟨w.heap.size, 3, none⟩ = some (.slice (some am) nm cm) ∧ w'.cell? ⟨w.heap.size, 5, none⟩ = some (.slice (some ab) nb cb) ∧ w'.cell? (am.add j) = some (.int .i64 m) ∧ w'.cell? (ab.add k) = some (.int .i64 b)) (ds := [23, 24]) #[false, false, false, false, false, false, false, false, false, false, false, false, false, false, false, false, false, false, false, false, false, false, false, false, false] (by kernel_rfl) rfl rfl ⟨y0, y1, g3, g5, xm, xb⟩ (fun hHeld => ?_)
      have bD := Bw.drawn (a := W2) ⟨⟨1, rfl⟩⟩
      refine pq_ (i := 0) (N := (some 30)) (v := ?_) (a' := ?_) rfl rfl (by kernel_rfl) (fun _ _ _ h => h) (Or.inl ⟨by rfl, ?_⟩) ?_ ?_
      rotate_left; (intro w'; go_simp; with_reducible rfl); rotate_left; (simp only [Act.put, s1_, s2_, s3_, i64_w, i32_w]; rfl)
      refine tq_ (i := 1) (N := (some 31)) (v := ?_) (a' := ?_) rfl rfl (by kernel_rfl) (fun _ _ _ h => h) (Or.inl ⟨by rfl, ?_⟩) hHeld ?_ ?_
      rotate_left; (rintro w' ⟨s0, s1, s2, s3, s4, s5⟩; go_simp; with_reducible rfl); rotate_left; (simp only [Act.put, s1_, s2_, s3_, i64_w, i32_w]; rfl)
      refine pq_ (i := 2) (N := (some 32)) (v := ?_) (a' := ?_) rfl rfl (by kernel_rfl) (fun _ _ _ h => h) (Or.inl ⟨by rfl, ?_⟩) ?_ ?_
      rotate_left; (intro w'; go_simp; with_reducible rfl); rotate_left; (simp only [Act.put, s1_, s2_, s3_, i64_w, i32_w]; rfl)
      refine tq_ (i := 3) (N := (some 33)) (v := ?_) (a' := ?_) rfl rfl (by kernel_rfl) (fun _ _ _ h => h) (Or.inl ⟨by rfl, ?_⟩) hHeld ?_ ?_
      rotate_left; (rintro w' ⟨s0, s1, s2, s3, s4, s5⟩; go_simp; with_reducible rfl); rotate_left; (simp only [Act.put, s1_, s2_, s3_, i64_w, i32_w]; rfl)
      refine pq_ (i := 4) (N := (some 34)) (v := ?_) (a' := ?_) rfl rfl (by kernel_rfl) (fun _ _ _ h => h) (Or.inl ⟨by rfl, ?_⟩) ?_ ?_
      rotate_left; (intro w'; go_simp; with_reducible rfl); rotate_left; (simp only [Act.put, s1_, s2_, s3_, i64_w, i32_w]; rfl)
      refine pq_ (i := 5) (N := (some 35)) (v := ?_) (a' := ?_) rfl rfl (by kernel_rfl) (fun _ _ _ h => h) (Or.inl ⟨by rfl, ?_⟩) ?_ ?_
      rotate_left; (intro w'; go_simp; with_reducible rfl); rotate_left; (simp only [Act.put, s1_, s2_, s3_, i64_w, i32_w]; rfl)
      refine tq_ (i := 6) (N := (some 36)) (v := ?_) (a' := ?_) rfl rfl (by kernel_rfl) (fun _ _ _ h => h) (Or.inl ⟨by rfl, ?_⟩) hHeld ?_ ?_
      rotate_left; (rintro w' ⟨s0, s1, s2, s3, s4, s5⟩; go_simp; with_reducible rfl); rotate_left; (simp only [Act.put, s1_, s2_, s3_, i64_w, i32_w]; rfl)
      refine pq_ (i := 7) (N := (some 37)) (v := ?_) (a' := ?_) rfl rfl (by kernel_rfl) (fun _ _ _ h => h) (Or.inl ⟨by rfl, ?_⟩) ?_ ?_
      rotate_left; (intro w'; go_simp; with_reducible rfl); rotate_left; (simp only [Act.put, s1_, s2_, s3_, i64_w, i32_w]; rfl)
      refine tq_ (i := 8) (N := (some 38)) (v := ?_) (a' := ?_) rfl rfl (by kernel_rfl) (fun _ _ _ h => h) (Or.inl ⟨by rfl, ?_⟩) hHeld ?_ ?_
      rotate_left; (rintro w' ⟨s0, s1, s2, s3, s4, s5⟩; go_simp; with_reducible rfl); rotate_left; (simp only [Act.put, s1_, s2_, s3_, i64_w, i32_w]; rfl)
      refine pq_ (i := 9) (N := (some 39)) (v := ?_) (a' := ?_) rfl rfl (by kernel_rfl) (fun _ _ _ h => h) (Or.inl ⟨by rfl, ?_⟩) ?_ ?_
      rotate_left; (intro w'; go_simp; with_reducible rfl); rotate_left; (simp only [Act.put, s1_, s2_, s3_, i64_w, i32_w]; rfl)
      refine tq_ (i := 10) (N := (some 40)) (v := ?_) (a' := ?_) rfl rfl (by kernel_rfl) (fun _ _ _ h => h) (Or.inl ⟨by rfl, ?_⟩) hHeld ?_ ?_
      rotate_left; (rintro w' ⟨s0, s1, s2, s3, s4, s5⟩; go_simp; with_reducible rfl); rotate_left; (simp only [Act.put, s1_, s2_, s3_, i64_w, i32_w]; rfl)
      refine pq_ (i := 11) (N := (some 41)) (v := ?_) (a' := ?_) rfl rfl (by kernel_rfl) (fun _ _ _ h => h) (Or.inl ⟨by rfl, ?_⟩) ?_ ?_
      rotate_left; (intro w'; go_simp; with_reducible rfl); rotate_left; (simp only [Act.put, s1_, s2_, s3_, i64_w, i32_w]; rfl)
      refine tq_ (i := 12) (N := (some 42)) (v := ?_) (a' := ?_) rfl rfl (by kernel_rfl) (fun _ _ _ h => h) (Or.inl ⟨by rfl, ?_⟩) hHeld ?_ ?_
      rotate_left; (rintro w' ⟨s0, s1, s2, s3, s4, s5⟩; go_simp; with_reducible rfl); rotate_left; (simp only [Act.put, s1_, s2_, s3_, i64_w, i32_w]; rfl)
      refine pq_ (i := 13) (N := (some 43)) (v := ?_) (a' := ?_) rfl rfl (by kernel_rfl) (fun _ _ _ h => h) (Or.inl ⟨by rfl, ?_⟩) ?_ ?_
      rotate_left; (intro w'; go_simp; with_reducible rfl); rotate_left; (simp only [Act.put, s1_, s2_, s3_, i64_w, i32_w]; rfl)
      refine tq_ (i := 14) (N := (some 44)) (v := ?_) (a' := ?_) rfl rfl (by kernel_rfl) (fun _ _ _ h => h) (Or.inl ⟨by rfl, ?_⟩) hHeld ?_ ?_
      rotate_left; (rintro w' ⟨s0, s1, s2, s3, s4, s5⟩; go_simp; with_reducible rfl); rotate_left; (simp only [Act.put, s1_, s2_, s3_, i64_w, i32_w]; rfl)
      refine pq_ (i := 15) (N := (some 45)) (v := ?_) (a' := ?_) rfl rfl (by kernel_rfl) (fun _ _ _ h => h) (Or.inl ⟨by rfl, ?_⟩) ?_ ?_
      rotate_left; (intro w'; go_simp; with_reducible rfl); rotate_left; (simp only [Act.put, s1_, s2_, s3_, i64_w, i32_w]; rfl)
      refine pq_ (i := 16) (N := (some 46)) (v := ?_) (a' := ?_) rfl rfl (by kernel_rfl) (fun _ _ _ h => h) (Or.inl ⟨by rfl, ?_⟩) ?_ ?_
      rotate_left; (intro w'; go_simp; with_reducible rfl); rotate_left; (simp only [Act.put, s1_, s2_, s3_, i64_w, i32_w]; rfl)
      refine tq_ (i := 17) (N := (some 47)) (v := ?_) (a' := ?_) rfl rfl (by kernel_rfl) (fun _ _ _ h => h) (Or.inl ⟨by rfl, ?_⟩) hHeld ?_ ?_
      rotate_left; (rintro w' ⟨s0, s1, s2, s3, s4, s5⟩; go_simp; with_reducible rfl); rotate_left; (simp only [Act.put, s1_, s2_, s3_, i64_w, i32_w]; rfl)
      refine pq_ (i := 18) (N := (some 48)) (v := ?_) (a' := ?_) rfl rfl (by kernel_rfl) (fun _ _ _ h => h) (Or.inl ⟨by rfl, ?_⟩) ?_ ?_
      rotate_left; (intro w'; go_simp; with_reducible rfl); rotate_left; (simp only [Act.put, s1_, s2_, s3_, i64_w, i32_w]; rfl)
      refine tq_ (i := 19) (N := (some 49)) (v := ?_) (a' := ?_) rfl rfl (by kernel_rfl) (fun _ _ _ h => h) (Or.inl ⟨by rfl, ?_⟩) hHeld ?_ ?_
      rotate_left; (rintro w' ⟨s0, s1, s2, s3, s4, s5⟩; go_simp; with_reducible rfl); rotate_left; (simp only [Act.put, s1_, s2_, s3_, i64_w, i32_w]; rfl)
      refine pq_ (i := 20) (N := (some 50)) (v := ?_) (a' := ?_) rfl rfl (by kernel_rfl) (fun _ _ _ h => h) (Or.inl ⟨by rfl, ?_⟩) ?_ ?_
      rotate_left; (intro w'; go_simp; with_reducible rfl); rotate_left; (simp only [Act.put, s1_, s2_, s3_, i64_w, i32_w]; rfl)
      refine pq_ (i := 21) (N := (some 51)) (v := ?_) (a' := ?_) rfl rfl (by kernel_rfl) (fun _ _ _ h => h) (Or.inl ⟨by rfl, ?_⟩) ?_ ?_
      rotate_left; (intro w'; go_simp; with_reducible rfl); rotate_left; (simp only [Act.put, s1_, s2_, s3_, i64_w, i32_w]; rfl)
      refine pq_ (i := 22) (N := (some 52)) (v := ?_) (a' := ?_) rfl rfl (by kernel_rfl) (fun _ _ _ h => h) (Or.inl ⟨by rfl, ?_⟩) ?_ ?_
      rotate_left; (intro w'; go_simp; with_reducible rfl); rotate_left; (simp only [Act.put, s1_, s2_, s3_, i64_w, i32_w]; rfl)
      clear hHeld
      refine last_ (i := 23) (N := (some 53)) #[true, true, true, true, true, true, true, true, true, true, true, true, true, true, true, true, true, true, true, true, true, true, true, true, false] rfl rfl (by kernel_rfl) (by decide) (fun K hK => ?_)
      refine value_ (w1 := ?_) (v := ?_) (by rfl) rfl ?_ ?_
      rotate_left 2
      ·go_simp
       constructor
       ·rfl
       ·rfl
      refine hK.out _ _ ?_
      clear hK K; refine norm_ (a' := ?_) ?_ ?_; rotate_left; (show Act.put _ (some 53) _ = _; simp only [Act.put, s1_, s2_, s3_, i64_w, i32_w]; rfl)
      refine last_ (i := 24) (N := (some 9)) #[true, true, true, true, true, true, true, true, true, true, true, true, true, true, true, true, true, true, true, true, true, true, true, true, true] rfl rfl (by kernel_rfl) (by decide) (fun K hK => ?_)
      refine value_ (w1 := ?_) (v := ?_) (by rfl) rfl ?_ ?_
      rotate_left 2
      ·go_simp
       constructor
       ·rfl
       ·rfl
      refine hK.out _ _ ?_
      clear hK K; refine norm_ (a' := ?_) ?_ ?_; rotate_left; (show Act.put _ (some 9) _ = _; simp only [Act.put, s1_, s2_, s3_, i64_w, i32_w]; rfl)
      refine done_ (by kernel_rfl) ?_
      have oN : OI ((W2.drewN 1).alloc (.cells #[.int .i64 1, .int .i64 2, .int .i64 m, .int .i64 s] 3)) W2.heap.size (.slice (some ⟨W2.heap.size, 0, none⟩) 4 4) 4 [1, 2, m, s] := ⟨own_lit (W2.drewN 1) W2.heap.size 3 .i64 [1, 2, m, s] (Nat.le_refl _) (by simp)⟩
      have bN := bD.trans (Bw.box1 (W2.drewN 1) (.cells #[.int .i64 1, .int .i64 2, .int .i64 m, .int .i64 s] 3))
      have HSI := hid (show ghS [1, 2, m, s] 0 = lfS lv ms bd j by rw [HSN.out]; rfl)
      go_wp2
      go_meet
      case rel => exact ⟨_, _, rfl, hid (Nat.le_refl _), hid oN, HSI, hid bN⟩
     ·have hmr' := hmr
      obtain ⟨mp, hmp⟩ : ∃ mp, m * 8 = mp := ⟨_, rfl⟩
      have hmpb : 0 ≤ mp ∧ mp ≤ 160000000 := by clear e1; omega
      obtain ⟨s, hs⟩ : ∃ s, b + mp = s := ⟨_, rfl⟩
      have HSN := hid (show lfS lv ms bd j = ⟨1, 3, m, s⟩ by rw [HSN0.out, show pow2 3 = 8 from rfl, hmp, hs])
      have eA : wrap64 (m * 8) = mp := by rw [hmp]; exact w64 (by clear e1 hmp hs; omega) (by clear e1 hmp hs; omega)
      have eB : IntKind.i64.wrap (m * 8) = mp := by rw [hmp]; exact i64w (by clear e1 eA hmp hs; omega) (by clear e1 eA hmp hs; omega)
      have eC : wrap64 (b + mp) = s := by rw [hs]; exact w64 (by clear e1 eA eB; omega) (by clear e1 eA eB; omega)
      have eD : IntKind.i64.wrap (b + mp) = s := by rw [hs]; exact i64w (by clear e1 eA eB eC; omega) (by clear e1 eA eB eC; omega)
      have eS : (2 : Int) ^ min (IntKind.u64.wrap 3).toNat 64 = 8 := by rfl
      clear hmp hs hmr'
      refine start_ (n := 25) (S := fun w' => w'.cell? ⟨wr.heap.size, 0, none⟩ = some (.int .i64 (k : Int)) ∧ w'.cell? ⟨wr.heap.size, 1, none⟩ = some (.int .i64 3) ∧ w'.cell? ⟨w.heap.size, 3, none⟩ = some (.slice (some am) nm cm) ∧ w'.cell? ⟨w.heap.size, 5, none⟩ = some (.slice (some ab) nb cb) ∧ w'.cell? (am.add j) = some (.int .i64 m) ∧ w'.cell? (ab.add k) = some (.int .i64 b)) (ds := [23, 24]) #[false, false, false, false, false, false, false, false, false, false, false, false, false, false, false, false, false, false, false, false, false, false, false, false, false] (by kernel_rfl) rfl rfl ⟨y0, y1, g3, g5, xm, xb⟩ (fun hHeld => ?_)
      have bD := Bw.drawn (a := W2) ⟨⟨1, rfl⟩⟩
      refine pq_ (i := 0) (N := (some 30)) (v := ?_) (a' := ?_) rfl rfl (by kernel_rfl) (fun _ _ _ h => h) (Or.inl ⟨by rfl, ?_⟩) ?_ ?_
      rotate_left; (intro w'; go_simp; with_reducible rfl); rotate_left; (simp only [Act.put, s1_, s2_, s3_, i64_w, i32_w]; rfl)
      refine tq_ (i := 1) (N := (some 31)) (v := ?_) (a' := ?_) rfl rfl (by kernel_rfl) (fun _ _ _ h => h) (Or.inl ⟨by rfl, ?_⟩) hHeld ?_ ?_
      rotate_left; (rintro w' ⟨s0, s1, s2, s3, s4, s5⟩; go_simp; with_reducible rfl); rotate_left; (simp only [Act.put, s1_, s2_, s3_, i64_w, i32_w]; rfl)
      refine pq_ (i := 2) (N := (some 32)) (v := ?_) (a' := ?_) rfl rfl (by kernel_rfl) (fun _ _ _ h => h) (Or.inl ⟨by rfl, ?_⟩) ?_ ?_
      rotate_left; (intro w'; go_simp; with_reducible rfl); rotate_left; (simp only [Act.put, s1_, s2_, s3_, i64_w, i32_w]; rfl)
      refine tq_ (i := 3) (N := (some 33)) (v := ?_) (a' := ?_) rfl rfl (by kernel_rfl) (fun _ _ _ h => h) (Or.inl ⟨by rfl, ?_⟩) hHeld ?_ ?_
      rotate_left; (rintro w' ⟨s0, s1, s2, s3, s4, s5⟩; go_simp; with_reducible rfl); rotate_left; (simp only [Act.put, s1_, s2_, s3_, i64_w, i32_w]; rfl)
      refine pq_ (i := 4) (N := (some 34)) (v := ?_) (a' := ?_) rfl rfl (by kernel_rfl) (fun _ _ _ h => h) (Or.inl ⟨by rfl, ?_⟩) ?_ ?_
      rotate_left; (intro w'; go_simp; with_reducible rfl); rotate_left; (simp only [Act.put, s1_, s2_, s3_, i64_w, i32_w]; rfl)
      refine pq_ (i := 5) (N := (some 35)) (v := ?_) (a' := ?_) rfl rfl (by kernel_rfl) (fun _ _ _ h => h) (Or.inl ⟨by rfl, ?_⟩) ?_ ?_
      rotate_left; (intro w'; go_simp; with_reducible rfl); rotate_left; (simp only [Act.put, s1_, s2_, s3_, i64_w, i32_w]; rfl)
      refine tq_ (i := 6) (N := (some 36)) (v := ?_) (a' := ?_) rfl rfl (by kernel_rfl) (fun _ _ _ h => h) (Or.inl ⟨by rfl, ?_⟩) hHeld ?_ ?_
      rotate_left; (rintro w' ⟨s0, s1, s2, s3, s4, s5⟩; go_simp; with_reducible rfl); rotate_left; (simp only [Act.put, s1_, s2_, s3_, i64_w, i32_w]; rfl)
      refine pq_ (i := 7) (N := (some 37)) (v := ?_) (a' := ?_) rfl rfl (by kernel_rfl) (fun _ _ _ h => h) (Or.inl ⟨by rfl, ?_⟩) ?_ ?_
      rotate_left; (intro w'; go_simp; with_reducible rfl); rotate_left; (simp only [Act.put, s1_, s2_, s3_, i64_w, i32_w]; rfl)
      refine tq_ (i := 8) (N := (some 38)) (v := ?_) (a' := ?_) rfl rfl (by kernel_rfl) (fun _ _ _ h => h) (Or.inl ⟨by rfl, ?_⟩) hHeld ?_ ?_
      rotate_left; (rintro w' ⟨s0, s1, s2, s3, s4, s5⟩; go_simp; with_reducible rfl); rotate_left; (simp only [Act.put, s1_, s2_, s3_, i64_w, i32_w]; rfl)
      refine pq_ (i := 9) (N := (some 39)) (v := ?_) (a' := ?_) rfl rfl (by kernel_rfl) (fun _ _ _ h => h) (Or.inl ⟨by rfl, ?_⟩) ?_ ?_
      rotate_left; (intro w'; go_simp; with_reducible rfl); rotate_left; (simp only [Act.put, s1_, s2_, s3_, i64_w, i32_w]; rfl)
      refine tq_ (i := 10) (N := (some 40)) (v := ?_) (a' := ?_) rfl rfl (by kernel_rfl) (fun _ _ _ h => h) (Or.inl ⟨by rfl, ?_⟩) hHeld ?_ ?_
      rotate_left; (rintro w' ⟨s0, s1, s2, s3, s4, s5⟩; go_simp; with_reducible rfl); rotate_left; (simp only [Act.put, s1_, s2_, s3_, i64_w, i32_w]; rfl)
      refine pq_ (i := 11) (N := (some 41)) (v := ?_) (a' := ?_) rfl rfl (by kernel_rfl) (fun _ _ _ h => h) (Or.inl ⟨by rfl, ?_⟩) ?_ ?_
      rotate_left; (intro w'; go_simp; with_reducible rfl); rotate_left; (simp only [Act.put, s1_, s2_, s3_, i64_w, i32_w]; rfl)
      refine tq_ (i := 12) (N := (some 42)) (v := ?_) (a' := ?_) rfl rfl (by kernel_rfl) (fun _ _ _ h => h) (Or.inl ⟨by rfl, ?_⟩) hHeld ?_ ?_
      rotate_left; (rintro w' ⟨s0, s1, s2, s3, s4, s5⟩; go_simp; with_reducible rfl); rotate_left; (simp only [Act.put, s1_, s2_, s3_, i64_w, i32_w]; rfl)
      refine pq_ (i := 13) (N := (some 43)) (v := ?_) (a' := ?_) rfl rfl (by kernel_rfl) (fun _ _ _ h => h) (Or.inl ⟨by rfl, ?_⟩) ?_ ?_
      rotate_left; (intro w'; go_simp; with_reducible rfl); rotate_left; (simp only [Act.put, s1_, s2_, s3_, i64_w, i32_w]; rfl)
      refine tq_ (i := 14) (N := (some 44)) (v := ?_) (a' := ?_) rfl rfl (by kernel_rfl) (fun _ _ _ h => h) (Or.inl ⟨by rfl, ?_⟩) hHeld ?_ ?_
      rotate_left; (rintro w' ⟨s0, s1, s2, s3, s4, s5⟩; go_simp; with_reducible rfl); rotate_left; (simp only [Act.put, s1_, s2_, s3_, i64_w, i32_w]; rfl)
      refine pq_ (i := 15) (N := (some 45)) (v := ?_) (a' := ?_) rfl rfl (by kernel_rfl) (fun _ _ _ h => h) (Or.inl ⟨by rfl, ?_⟩) ?_ ?_
      rotate_left; (intro w'; go_simp; with_reducible rfl); rotate_left; (simp only [Act.put, s1_, s2_, s3_, i64_w, i32_w]; rfl)
      refine pq_ (i := 16) (N := (some 46)) (v := ?_) (a' := ?_) rfl rfl (by kernel_rfl) (fun _ _ _ h => h) (Or.inl ⟨by rfl, ?_⟩) ?_ ?_
      rotate_left; (intro w'; go_simp; with_reducible rfl); rotate_left; (simp only [Act.put, s1_, s2_, s3_, i64_w, i32_w]; rfl)
      refine tq_ (i := 17) (N := (some 47)) (v := ?_) (a' := ?_) rfl rfl (by kernel_rfl) (fun _ _ _ h => h) (Or.inl ⟨by rfl, ?_⟩) hHeld ?_ ?_
      rotate_left; (rintro w' ⟨s0, s1, s2, s3, s4, s5⟩; go_simp; with_reducible rfl); rotate_left; (simp only [Act.put, s1_, s2_, s3_, i64_w, i32_w]; rfl)
      refine pq_ (i := 18) (N := (some 48)) (v := ?_) (a' := ?_) rfl rfl (by kernel_rfl) (fun _ _ _ h => h) (Or.inl ⟨by rfl, ?_⟩) ?_ ?_
      rotate_left; (intro w'; go_simp; with_reducible rfl); rotate_left; (simp only [Act.put, s1_, s2_, s3_, i64_w, i32_w]; rfl)
      refine tq_ (i := 19) (N := (some 49)) (v := ?_) (a' := ?_) rfl rfl (by kernel_rfl) (fun _ _ _ h => h) (Or.inl ⟨by rfl, ?_⟩) hHeld ?_ ?_
      rotate_left; (rintro w' ⟨s0, s1, s2, s3, s4, s5⟩; go_simp; with_reducible rfl); rotate_left; (simp only [Act.put, s1_, s2_, s3_, i64_w, i32_w]; rfl)
      refine pq_ (i := 20) (N := (some 50)) (v := ?_) (a' := ?_) rfl rfl (by kernel_rfl) (fun _ _ _ h => h) (Or.inl ⟨by rfl, ?_⟩) ?_ ?_
      rotate_left; (intro w'; go_simp; with_reducible rfl); rotate_left; (simp only [Act.put, s1_, s2_, s3_, i64_w, i32_w]; rfl)
      refine pq_ (i := 21) (N := (some 51)) (v := ?_) (a' := ?_) rfl rfl (by kernel_rfl) (fun _ _ _ h => h) (Or.inl ⟨by rfl, ?_⟩) ?_ ?_
      rotate_left; (intro w'; go_simp; with_reducible rfl); rotate_left; (simp only [Act.put, s1_, s2_, s3_, i64_w, i32_w]; rfl)
      refine pq_ (i := 22) (N := (some 52)) (v := ?_) (a' := ?_) rfl rfl (by kernel_rfl) (fun _ _ _ h => h) (Or.inl ⟨by rfl, ?_⟩) ?_ ?_
      rotate_left; (intro w'; go_simp; with_reducible rfl); rotate_left; (simp only [Act.put, s1_, s2_, s3_, i64_w, i32_w]; rfl)
      clear hHeld
      refine last_ (i := 23) (N := (some 53)) #[true, true, true, true, true, true, true, true, true, true, true, true, true, true, true, true, true, true, true, true, true, true, true, true, false] rfl rfl (by kernel_rfl) (by decide) (fun K hK => ?_)
      refine value_ (w1 := ?_) (v := ?_) (by rfl) rfl ?_ ?_
      rotate_left 2
      ·go_simp
       constructor
       ·rfl
       ·rfl
      refine hK.out _ _ ?_
      clear hK K; refine norm_ (a' := ?_) ?_ ?_; rotate_left; (show Act.put _ (some 53) _ = _; simp only [Act.put, s1_, s2_, s3_, i64_w, i32_w]; rfl)
      refine last_ (i := 24) (N := (some 9)) #[true, true, true, true, true, true, true, true, true, true, true, true, true, true, true, true, true, true, true, true, true, true, true, true, true] rfl rfl (by kernel_rfl) (by decide) (fun K hK => ?_)
      refine value_ (w1 := ?_) (v := ?_) (by rfl) rfl ?_ ?_
      rotate_left 2
      ·go_simp
       constructor
       ·rfl
       ·rfl
      refine hK.out _ _ ?_
      clear hK K; refine norm_ (a' := ?_) ?_ ?_; rotate_left; (show Act.put _ (some 9) _ = _; simp only [Act.put, s1_, s2_, s3_, i64_w, i32_w]; rfl)
      refine done_ (by kernel_rfl) ?_
      have oN : OI ((W2.drewN 1).alloc (.cells #[.int .i64 1, .int .i64 3, .int .i64 m, .int .i64 s] 3)) W2.heap.size (.slice (some ⟨W2.heap.size, 0, none⟩) 4 4) 4 [1, 3, m, s] := ⟨own_lit (W2.drewN 1) W2.heap.size 3 .i64 [1, 3, m, s] (Nat.le_refl _) (by simp)⟩
      have bN := bD.trans (Bw.box1 (W2.drewN 1) (.cells #[.int .i64 1, .int .i64 3, .int .i64 m, .int .i64 s] 3))
      have HSI := hid (show ghS [1, 3, m, s] 0 = lfS lv ms bd j by rw [HSN.out]; rfl)
      go_wp2
      go_meet
      case rel => exact ⟨_, _, rfl, hid (Nat.le_refl _), hid oN, HSI, hid bN⟩
     ·have hmr' := hmr
      obtain ⟨mp, hmp⟩ : ∃ mp, m * 16 = mp := ⟨_, rfl⟩
      have hmpb : 0 ≤ mp ∧ mp ≤ 160000000 := by clear e1; omega
      obtain ⟨s, hs⟩ : ∃ s, b + mp = s := ⟨_, rfl⟩
      have HSN := hid (show lfS lv ms bd j = ⟨1, 4, m, s⟩ by rw [HSN0.out, show pow2 4 = 16 from rfl, hmp, hs])
      have eA : wrap64 (m * 16) = mp := by rw [hmp]; exact w64 (by clear e1 hmp hs; omega) (by clear e1 hmp hs; omega)
      have eB : IntKind.i64.wrap (m * 16) = mp := by rw [hmp]; exact i64w (by clear e1 eA hmp hs; omega) (by clear e1 eA hmp hs; omega)
      have eC : wrap64 (b + mp) = s := by rw [hs]; exact w64 (by clear e1 eA eB; omega) (by clear e1 eA eB; omega)
      have eD : IntKind.i64.wrap (b + mp) = s := by rw [hs]; exact i64w (by clear e1 eA eB eC; omega) (by clear e1 eA eB eC; omega)
      have eS : (2 : Int) ^ min (IntKind.u64.wrap 4).toNat 64 = 16 := by rfl
      clear hmp hs hmr'
      refine start_ (n := 25) (S := fun w' => w'.cell? ⟨wr.heap.size, 0, none⟩ = some (.int .i64 (k : Int)) ∧ w'.cell? ⟨wr.heap.size, 1, none⟩ = some (.int .i64 4) ∧ w'.cell? ⟨w.heap.size, 3, none⟩ = some (.slice (some am) nm cm) ∧ w'.cell? ⟨w.heap.size, 5, none⟩ = some (.slice (some ab) nb cb) ∧ w'.cell? (am.add j) = some (.int .i64 m) ∧ w'.cell? (ab.add k) = some (.int .i64 b)) (ds := [23, 24]) #[false, false, false, false, false, false, false, false, false, false, false, false, false, false, false, false, false, false, false, false, false, false, false, false, false] (by kernel_rfl) rfl rfl ⟨y0, y1, g3, g5, xm, xb⟩ (fun hHeld => ?_)
      have bD := Bw.drawn (a := W2) ⟨⟨1, rfl⟩⟩
      refine pq_ (i := 0) (N := (some 30)) (v := ?_) (a' := ?_) rfl rfl (by kernel_rfl) (fun _ _ _ h => h) (Or.inl ⟨by rfl, ?_⟩) ?_ ?_
      rotate_left; (intro w'; go_simp; with_reducible rfl); rotate_left; (simp only [Act.put, s1_, s2_, s3_, i64_w, i32_w]; rfl)
      refine tq_ (i := 1) (N := (some 31)) (v := ?_) (a' := ?_) rfl rfl (by kernel_rfl) (fun _ _ _ h => h) (Or.inl ⟨by rfl, ?_⟩) hHeld ?_ ?_
      rotate_left; (rintro w' ⟨s0, s1, s2, s3, s4, s5⟩; go_simp; with_reducible rfl); rotate_left; (simp only [Act.put, s1_, s2_, s3_, i64_w, i32_w]; rfl)
      refine pq_ (i := 2) (N := (some 32)) (v := ?_) (a' := ?_) rfl rfl (by kernel_rfl) (fun _ _ _ h => h) (Or.inl ⟨by rfl, ?_⟩) ?_ ?_
      rotate_left; (intro w'; go_simp; with_reducible rfl); rotate_left; (simp only [Act.put, s1_, s2_, s3_, i64_w, i32_w]; rfl)
      refine tq_ (i := 3) (N := (some 33)) (v := ?_) (a' := ?_) rfl rfl (by kernel_rfl) (fun _ _ _ h => h) (Or.inl ⟨by rfl, ?_⟩) hHeld ?_ ?_
      rotate_left; (rintro w' ⟨s0, s1, s2, s3, s4, s5⟩; go_simp; with_reducible rfl); rotate_left; (simp only [Act.put, s1_, s2_, s3_, i64_w, i32_w]; rfl)
      refine pq_ (i := 4) (N := (some 34)) (v := ?_) (a' := ?_) rfl rfl (by kernel_rfl) (fun _ _ _ h => h) (Or.inl ⟨by rfl, ?_⟩) ?_ ?_
      rotate_left; (intro w'; go_simp; with_reducible rfl); rotate_left; (simp only [Act.put, s1_, s2_, s3_, i64_w, i32_w]; rfl)
      refine pq_ (i := 5) (N := (some 35)) (v := ?_) (a' := ?_) rfl rfl (by kernel_rfl) (fun _ _ _ h => h) (Or.inl ⟨by rfl, ?_⟩) ?_ ?_
      rotate_left; (intro w'; go_simp; with_reducible rfl); rotate_left; (simp only [Act.put, s1_, s2_, s3_, i64_w, i32_w]; rfl)
      refine tq_ (i := 6) (N := (some 36)) (v := ?_) (a' := ?_) rfl rfl (by kernel_rfl) (fun _ _ _ h => h) (Or.inl ⟨by rfl, ?_⟩) hHeld ?_ ?_
      rotate_left; (rintro w' ⟨s0, s1, s2, s3, s4, s5⟩; go_simp; with_reducible rfl); rotate_left; (simp only [Act.put, s1_, s2_, s3_, i64_w, i32_w]; rfl)
      refine pq_ (i := 7) (N := (some 37)) (v := ?_) (a' := ?_) rfl rfl (by kernel_rfl) (fun _ _ _ h => h) (Or.inl ⟨by rfl, ?_⟩) ?_ ?_
      rotate_left; (intro w'; go_simp; with_reducible rfl); rotate_left; (simp only [Act.put, s1_, s2_, s3_, i64_w, i32_w]; rfl)
      refine tq_ (i := 8) (N := (some 38)) (v := ?_) (a' := ?_) rfl rfl (by kernel_rfl) (fun _ _ _ h => h) (Or.inl ⟨by rfl, ?_⟩) hHeld ?_ ?_
      rotate_left; (rintro w' ⟨s0, s1, s2, s3, s4, s5⟩; go_simp; with_reducible rfl); rotate_left; (simp only [Act.put, s1_, s2_, s3_, i64_w, i32_w]; rfl)
      refine pq_ (i := 9) (N := (some 39)) (v := ?_) (a' := ?_) rfl rfl (by kernel_rfl) (fun _ _ _ h => h) (Or.inl ⟨by rfl, ?_⟩) ?_ ?_
      rotate_left; (intro w'; go_simp; with_reducible rfl); rotate_left; (simp only [Act.put, s1_, s2_, s3_, i64_w, i32_w]; rfl)
      refine tq_ (i := 10) (N := (some 40)) (v := ?_) (a' := ?_) rfl rfl (by kernel_rfl) (fun _ _ _ h => h) (Or.inl ⟨by rfl, ?_⟩) hHeld ?_ ?_
      rotate_left; (rintro w' ⟨s0, s1, s2, s3, s4, s5⟩; go_simp; with_reducible rfl); rotate_left; (simp only [Act.put, s1_, s2_, s3_, i64_w, i32_w]; rfl)
      refine pq_ (i := 11) (N := (some 41)) (v := ?_) (a' := ?_) rfl rfl (by kernel_rfl) (fun _ _ _ h => h) (Or.inl ⟨by rfl, ?_⟩) ?_ ?_
      rotate_left; (intro w'; go_simp; with_reducible rfl); rotate_left; (simp only [Act.put, s1_, s2_, s3_, i64_w, i32_w]; rfl)
      refine tq_ (i := 12) (N := (some 42)) (v := ?_) (a' := ?_) rfl rfl (by kernel_rfl) (fun _ _ _ h => h) (Or.inl ⟨by rfl, ?_⟩) hHeld ?_ ?_
      rotate_left; (rintro w' ⟨s0, s1, s2, s3, s4, s5⟩; go_simp; with_reducible rfl); rotate_left; (simp only [Act.put, s1_, s2_, s3_, i64_w, i32_w]; rfl)
      refine pq_ (i := 13) (N := (some 43)) (v := ?_) (a' := ?_) rfl rfl (by kernel_rfl) (fun _ _ _ h => h) (Or.inl ⟨by rfl, ?_⟩) ?_ ?_
      rotate_left; (intro w'; go_simp; with_reducible rfl); rotate_left; (simp only [Act.put, s1_, s2_, s3_, i64_w, i32_w]; rfl)
      refine tq_ (i := 14) (N := (some 44)) (v := ?_) (a' := ?_) rfl rfl (by kernel_rfl) (fun _ _ _ h => h) (Or.inl ⟨by rfl, ?_⟩) hHeld ?_ ?_
      rotate_left; (rintro w' ⟨s0, s1, s2, s3, s4, s5⟩; go_simp; with_reducible rfl); rotate_left; (simp only [Act.put, s1_, s2_, s3_, i64_w, i32_w]; rfl)
      refine pq_ (i := 15) (N := (some 45)) (v := ?_) (a' := ?_) rfl rfl (by kernel_rfl) (fun _ _ _ h => h) (Or.inl ⟨by rfl, ?_⟩) ?_ ?_
      rotate_left; (intro w'; go_simp; with_reducible rfl); rotate_left; (simp only [Act.put, s1_, s2_, s3_, i64_w, i32_w]; rfl)
      refine pq_ (i := 16) (N := (some 46)) (v := ?_) (a' := ?_) rfl rfl (by kernel_rfl) (fun _ _ _ h => h) (Or.inl ⟨by rfl, ?_⟩) ?_ ?_
      rotate_left; (intro w'; go_simp; with_reducible rfl); rotate_left; (simp only [Act.put, s1_, s2_, s3_, i64_w, i32_w]; rfl)
      refine tq_ (i := 17) (N := (some 47)) (v := ?_) (a' := ?_) rfl rfl (by kernel_rfl) (fun _ _ _ h => h) (Or.inl ⟨by rfl, ?_⟩) hHeld ?_ ?_
      rotate_left; (rintro w' ⟨s0, s1, s2, s3, s4, s5⟩; go_simp; with_reducible rfl); rotate_left; (simp only [Act.put, s1_, s2_, s3_, i64_w, i32_w]; rfl)
      refine pq_ (i := 18) (N := (some 48)) (v := ?_) (a' := ?_) rfl rfl (by kernel_rfl) (fun _ _ _ h => h) (Or.inl ⟨by rfl, ?_⟩) ?_ ?_
      rotate_left; (intro w'; go_simp; with_reducible rfl); rotate_left; (simp only [Act.put, s1_, s2_, s3_, i64_w, i32_w]; rfl)
      refine tq_ (i := 19) (N := (some 49)) (v := ?_) (a' := ?_) rfl rfl (by kernel_rfl) (fun _ _ _ h => h) (Or.inl ⟨by rfl, ?_⟩) hHeld ?_ ?_
      rotate_left; (rintro w' ⟨s0, s1, s2, s3, s4, s5⟩; go_simp; with_reducible rfl); rotate_left; (simp only [Act.put, s1_, s2_, s3_, i64_w, i32_w]; rfl)
      refine pq_ (i := 20) (N := (some 50)) (v := ?_) (a' := ?_) rfl rfl (by kernel_rfl) (fun _ _ _ h => h) (Or.inl ⟨by rfl, ?_⟩) ?_ ?_
      rotate_left; (intro w'; go_simp; with_reducible rfl); rotate_left; (simp only [Act.put, s1_, s2_, s3_, i64_w, i32_w]; rfl)
      refine pq_ (i := 21) (N := (some 51)) (v := ?_) (a' := ?_) rfl rfl (by kernel_rfl) (fun _ _ _ h => h) (Or.inl ⟨by rfl, ?_⟩) ?_ ?_
      rotate_left; (intro w'; go_simp; with_reducible rfl); rotate_left; (simp only [Act.put, s1_, s2_, s3_, i64_w, i32_w]; rfl)
      refine pq_ (i := 22) (N := (some 52)) (v := ?_) (a' := ?_) rfl rfl (by kernel_rfl) (fun _ _ _ h => h) (Or.inl ⟨by rfl, ?_⟩) ?_ ?_
      rotate_left; (intro w'; go_simp; with_reducible rfl); rotate_left; (simp only [Act.put, s1_, s2_, s3_, i64_w, i32_w]; rfl)
      clear hHeld
      refine last_ (i := 23) (N := (some 53)) #[true, true, true, true, true, true, true, true, true, true, true, true, true, true, true, true, true, true, true, true, true, true, true, true, false] rfl rfl (by kernel_rfl) (by decide) (fun K hK => ?_)
      refine value_ (w1 := ?_) (v := ?_) (by rfl) rfl ?_ ?_
      rotate_left 2
      ·go_simp
       constructor
       ·rfl
       ·rfl
      refine hK.out _ _ ?_
      clear hK K; refine norm_ (a' := ?_) ?_ ?_; rotate_left; (show Act.put _ (some 53) _ = _; simp only [Act.put, s1_, s2_, s3_, i64_w, i32_w]; rfl)
      refine last_ (i := 24) (N := (some 9)) #[true, true, true, true, true, true, true, true, true, true, true, true, true, true, true, true, true, true, true, true, true, true, true, true, true] rfl rfl (by kernel_rfl) (by decide) (fun K hK => ?_)
      refine value_ (w1 := ?_) (v := ?_) (by rfl) rfl ?_ ?_
      rotate_left 2
      ·go_simp
       constructor
       ·rfl
       ·rfl
      refine hK.out _ _ ?_
      clear hK K; refine norm_ (a' := ?_) ?_ ?_; rotate_left; (show Act.put _ (some 9) _ = _; simp only [Act.put, s1_, s2_, s3_, i64_w, i32_w]; rfl)
      refine done_ (by kernel_rfl) ?_
      have oN : OI ((W2.drewN 1).alloc (.cells #[.int .i64 1, .int .i64 4, .int .i64 m, .int .i64 s] 3)) W2.heap.size (.slice (some ⟨W2.heap.size, 0, none⟩) 4 4) 4 [1, 4, m, s] := ⟨own_lit (W2.drewN 1) W2.heap.size 3 .i64 [1, 4, m, s] (Nat.le_refl _) (by simp)⟩
      have bN := bD.trans (Bw.box1 (W2.drewN 1) (.cells #[.int .i64 1, .int .i64 4, .int .i64 m, .int .i64 s] 3))
      have HSI := hid (show ghS [1, 4, m, s] 0 = lfS lv ms bd j by rw [HSN.out]; rfl)
      go_wp2
      go_meet
      case rel => exact ⟨_, _, rfl, hid (Nat.le_refl _), hid oN, HSI, hid bN⟩
    case rest =>
     obtain ⟨G, L6, rfl, hG, hN, hSN, hBN⟩ := hcut
     clear y0 y1 xm xb g3 g5 hmr hbr hq1 k0 k1 hkb hkb2
     have hFV := hid (show faceV (ghS l6 0) (ghS L6 0) t = locAt lv ms bd gh t j by
      rw [hS.out, hSN.out, locAt]
      congr 1
      rw [sdA, if_neg (by omega), if_pos (by have := HLV.out; clear e1; omega), Nat.add_sub_cancel])
     have hS2 := hid (show ghS L6 0 = sdA lv ms bd gh (j + 1) by
      rw [hSN.out, sdA, if_neg (by omega), if_pos (by have := HLV.out; clear e1; omega), Nat.add_sub_cancel])
     have hR3 := hid (hR.out.to (HBX.out.trans hBN.out))
     have hO3 := hid (hO.out.to (HBX.out.trans hBN.out))
     have hB3 := hid (hB.out.trans (HBX.out.trans hBN.out))
     have hK3 := hid (((HBX.out.trans hBN.out).out.block _ (blk_lt hK.out)).trans hK.out)
     have hAV := hid (show ∀ q, (Value.slice Ao j co).ownBlock = some q → q < G from fun q hq => by
      have h1 := own_lt hO.out.out q hq
      have h2 := HBX.out.size
      have h3 := hG.out
      clear e1
      omega)
     clear hO hB hK hR
     go_wp2_with fail
     refine (spec_l24Face (some a6) (some ⟨G, 0, none⟩) c6 4 l6 L6 t _ hR3.out hN.out.ri (by rw [hS.out]; exact HSD.out j) (by rw [hS2.out]; exact HSD.out (j + 1)) ht).mono ?_
     rintro e w4 ⟨rfl, d4⟩
     rw [hFV.out]
     have b4 := Bw.drawn d4
     have hO4 := hid (hO3.out.to b4)
     have hB4 := hid (hB3.out.trans b4)
     have hK4 := hid ((b4.out.block _ (blk_lt hK3.out)).trans hK3.out)
     have hN4 := hid (hN.out.to b4)
     have hSZ := hid (show G < w4.heap.size from by
      have h1 := own_lt hN4.out.out G rfl
      exact h1)
     clear hO3 hB3 hK3 hR3 hN b4 d4
     have hlen := rowOf_len j (locAt lv ms bd gh t)
     have HLEN := hid hlen
     clear hlen
     have hO5 := hid (show OI w4 w.heap.size (.slice Ao j co) (rowOf j (locAt lv ms bd gh t)).length (rowOf j (locAt lv ms bd gh t)) by rw [HLEN.out]; exact hO4.out)
     go_wp2_with (at_builtin; refine print_append_num (w0 := w) w.heap.size rfl _ _ 31 3 .i64 8 rfl Try.underlying31 info_int (by omega) (.slice Ao j co) (rowOf j (locAt lv ms bd gh t)) (locAt lv ms bd gh t j) rfl rfl hO5.out.out hB4.out.out hB4.out.size (by clear e1; have := HLEN.out; omega) ?_; intro v1 w5 hown1 hB1 hg1 had1)
     have hK5 := hid (blk_grown hK4.out hg1 (own_ne hO4.out.out hK4.out (by decide)))
     have hO6 := hid (show OI w5 w.heap.size v1 (j + 1) (rowOf (j + 1) (locAt lv ms bd gh t)) from ⟨by have h := hown1; rw [← rowOf_snocU, rowOf_len] at h; exact h⟩)
     have hR6 := hid (hN4.out.ri.past hg1 (fun e => Nat.lt_irrefl _ (hAV.out G e.symm)))
     have hA6 := hid (show some (⟨G, 0, none⟩ : Addr).block ≠ v1.ownBlock from fun e => by
      rcases had1 with h | ⟨b, h, hb⟩
      ·exact Nat.lt_irrefl _ (hAV.out G (h.symm.trans e.symm))
      ·have e2 := Option.some.inj (e.trans h)
       have h1 := hSZ.out
       simp only at e2
       clear e1
       omega)
     go_roundw
     case rel => exact ⟨j + 1, _, _, _, hkk.out.1, by go_num, rfl, hO6, hid ⟨hB1⟩, hK5, hR6, hS2, hA6⟩
     case measure => simp [intOf]; clear e1; omega
   ·obtain rfl : nm = j := by omega
    have t1 : decide ((nm : Int) < (nm : Int)) = false := decide_eq_false (by omega)
    have t2 : decide (nm < nm) = false := decide_eq_false (by omega)
    have s5 := HHV.out.2
    have hL5 := hid (HL.out)
    have HG7 := hid (show RI wr (some (ag.add 4)) 4 ((gh.drop 4).take 4) from (rg.to hB.out).sub 4 4 (by omega) (by omega))
    have HS7 := hid (show ghS ((gh.drop 4).take 4) 0 = sdA lv ms bd gh (nm + 1) by
     rw [sdA, if_neg (by omega), if_neg (by have := HLV.out; omega), ghS, ghS, sub_rd gh 4 0 (by omega), sub_rd gh 4 1 (by omega), sub_rd gh 4 2 (by omega), sub_rd gh 4 3 (by omega)])
    have hFV := hid (show faceV (ghS l6 0) (ghS ((gh.drop 4).take 4) 0) t = locAt lv ms bd gh t nm by rw [hS.out, HS7.out, locAt])
    have HLF := hid (show rowOf (nm + 1) (locAt lv ms bd gh t) = locL lv ms bd gh t by rw [HL.out, HLV.out])
    clear g0 g1 g3 g4 g5 hkb0
    go_wp2_with fail
    refine (spec_l24Face (some a6) (some (ag.add 4)) c6 (cg - 4) l6 ((gh.drop 4).take 4) t _ hR.out HG7.out (by rw [hS.out]; exact HSD.out nm) (by rw [HS7.out]; exact HSD.out (nm + 1)) ht).mono ?_
    rintro e w4 ⟨rfl, d4⟩
    rw [hFV.out]
    have b4 := Bw.drawn d4
    have hO4 := hid (hO.out.to b4)
    have hB4 := hid (hB.out.trans b4)
    clear hO hB hK hR b4 d4
    have hlen := rowOf_len nm (locAt lv ms bd gh t)
    have HLEN := hid hlen
    clear hlen
    have hO5 := hid (show OI w4 w.heap.size (.slice Ao nm co) (rowOf nm (locAt lv ms bd gh t)).length (rowOf nm (locAt lv ms bd gh t)) by rw [HLEN.out]; exact hO4.out)
    go_wp2_with (at_builtin; refine print_append_num (w0 := w) w.heap.size rfl _ _ 31 3 .i64 8 rfl Try.underlying31 info_int (by omega) (.slice Ao nm co) (rowOf nm (locAt lv ms bd gh t)) (locAt lv ms bd gh t nm) rfl rfl hO5.out.out hB4.out.out hB4.out.size (by have := HLEN.out; omega) ?_; intro v1 w5 hown1 hB1 hg1 had1)
    have hO6 := hid (show OI w5 w.heap.size v1 (locL lv ms bd gh t).length (locL lv ms bd gh t) from ⟨by have h := hown1; rw [← rowOf_snocU, HLF.out] at h; exact h⟩)
    go_wp2
    go_ret
    exact ⟨_, rfl, hO6.out, ⟨hB1⟩⟩
end Go.Proofs.Ytkhjkcefkampkaa.U
