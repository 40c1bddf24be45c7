
/- The closure of LocalFluxes. -/
import Derived.Test.YtkhjkcefkampkaaG18
import Derived.Test.YtkhjkcefkampkaaG14
set_option linter.unusedVariables false
set_option linter.unusedSimpArgs false
namespace Go.Proofs.Ytkhjkcefkampkaa.U
open Go.RowKit Go.Lib Go.Proofs.YtkhjkcefkampkaaW.PrintWords
open Go.Proofs.YtkhjkcefkampkaaW.PrintLast Go.Proofs.YtkhjkcefkampkaaW.PrintMore
section
variable {P : Program} {ops : Array Oper} {Q : Exit → Act → World → Prop}
theorem goesV_ {oi : Oper} {N : Option Tmp} {a : Act} {w : World} {K : Act → World → Prop} {f : FuncId} {fn : Func} {os_ : Array Operand} {ts : Array TypeId} {t : Tmp} (hf : P.funcs[f]? = some fn) (hname : (fn.name == "runtime.NumGoroutine") = false) (hb : fn.body.isSome = true) (args : Array Value)
  (hw : Region.wanted oi (yielded ops a.tmps) = true) (hN : oi.dst = N) (hop : oi.op = .call { callee := .value (.tmp t), args := os_, argTypes := ts }) (hv : a.eval (.tmp t) = .func (.func f) #[] #[]) (hargs : os_.map a.eval = args)
  (h : Calls P f args w fun e w' => ∃ v, e = .returned v ∧ K (a.put N v) w') : if Region.wanted oi (yielded ops a.tmps) = true then Oper.wp P oi a w K Q else K (a.put N undef) w := by
 refine call_ f args hw hN ?_ h
 have he := enters_ hf hname hb args w
 unfold execOp
 simp [hop, resolve, Deferred.ofValue, invoke, hv, hargs, he]
end
set_option maxHeartbeats 4000000 in
set_option maxRecDepth 100000 in
theorem ghostC (A : Option Addr) (c : Nat) (l : List Int) (w : World) (r : RI w A 4 l) :
  Calls Try.prog 52 #[.slice A 4 c] w fun e w' => e = .returned (.agg #[.int .i64 (rd l ((1 : Nat) : Int)), .int .i64 (rd l ((2 : Nat) : Int)), .int .i64 (rd l ((3 : Nat) : Int))]) ∧ Bw w w' := by
 have b0 := Bw.box1 w (.cells #[.int .i64 0, .int .i64 0, .int .i64 0] 79)
 have hR := heap_alloc_new w (.cells #[.int .i64 0, .int .i64 0, .int .i64 0] 79 (0, 0))
 replace r := r.to b0
 obtain ⟨ad, rfl, _⟩ := r.nat 0 (by omega)
 obtain ⟨_, ea, x1⟩ := r.nat 1 (by omega)
 obtain rfl := Option.some.inj ea
 obtain ⟨_, eb, x2⟩ := r.nat 2 (by omega)
 obtain rfl := Option.some.inj eb
 obtain ⟨_, ec, x3⟩ := r.nat 3 (by omega)
 obtain rfl := Option.some.inj ec
 rw [add_pos _ _ (by omega)] at x1 x2 x3
 generalize rd l ((1 : Nat) : Int) = q1 at *
 generalize rd l ((2 : Nat) : Int) = q2 at *
 generalize rd l ((3 : Nat) : Int) = q3 at *
 clear ea eb ec
 go_enter Try.func52, Try.ntmps52
 go_upto_region 1 with fail
 generalize (w.alloc (.cells #[.int .i64 0, .int .i64 0, .int .i64 0] 79)) = W1 at *
 have s0 := (blk_cell hR 0).trans (show _ = some (Value.int .i64 0) from rfl)
 have s1 := (blk_cell hR 1).trans (show _ = some (Value.int .i64 0) from rfl)
 have s2 := (blk_cell hR 2).trans (show _ = some (Value.int .i64 0) from rfl)
 have f0 := blk_frozen hR 0
 have f1 := blk_frozen hR 1
 have f2 := blk_frozen hR 2
 refine start_ (n := 11) (S := fun w' => w'.cell? ⟨ad.block, ad.off + 1, none⟩ = some (.int .i64 q1) ∧ w'.cell? ⟨ad.block, ad.off + 2, none⟩ = some (.int .i64 q2) ∧ w'.cell? ⟨ad.block, ad.off + 3, none⟩ = some (.int .i64 q3)) (ds := [10]) #[false, false, false, false, false, false, false, false, false, false, false] (by kernel_rfl) rfl rfl ⟨x1, x2, x3⟩ (fun hHeld => ?_)
 refine pq_ (i := 0) (N := (some 3)) (v := ?_) (a' := ?_) rfl rfl (by kernel_rfl) (fun _ _ _ h => h) (Or.inl ⟨by rfl, ?_⟩) ?_ ?_
 rotate_left; (intro w'; go_simp; with_reducible rfl); rotate_left; (simp only [Act.put, s1_, s2_, s3_, i64_w, i32_w]; rfl)
 refine pq_ (i := 1) (N := (some 4)) (v := ?_) (a' := ?_) rfl rfl (by kernel_rfl) (fun _ _ _ h => h) (Or.inl ⟨by rfl, ?_⟩) ?_ ?_
 rotate_left; (intro w'; go_simp; with_reducible rfl); rotate_left; (simp only [Act.put, s1_, s2_, s3_, i64_w, i32_w]; rfl)
 refine tq_ (i := 2) (N := (some 5)) (v := ?_) (a' := ?_) rfl rfl (by kernel_rfl) (fun _ _ _ h => h) (Or.inl ⟨by rfl, ?_⟩) hHeld ?_ ?_
 rotate_left; (rintro w' ⟨s0, s1, s2⟩; go_simp; with_reducible rfl); rotate_left; (simp only [Act.put, s1_, s2_, s3_, i64_w, i32_w]; rfl)
 refine pq_ (i := 3) (N := (some 6)) (v := ?_) (a' := ?_) rfl rfl (by kernel_rfl) (fun _ _ _ h => h) (Or.inl ⟨by rfl, ?_⟩) ?_ ?_
 rotate_left; (intro w'; go_simp; with_reducible rfl); rotate_left; (simp only [Act.put, s1_, s2_, s3_, i64_w, i32_w]; rfl)
 refine pq_ (i := 4) (N := (some 7)) (v := ?_) (a' := ?_) rfl rfl (by kernel_rfl) (fun _ _ _ h => h) (Or.inl ⟨by rfl, ?_⟩) ?_ ?_
 rotate_left; (intro w'; go_simp; with_reducible rfl); rotate_left; (simp only [Act.put, s1_, s2_, s3_, i64_w, i32_w]; rfl)
 refine tq_ (i := 5) (N := (some 8)) (v := ?_) (a' := ?_) rfl rfl (by kernel_rfl) (fun _ _ _ h => h) (Or.inl ⟨by rfl, ?_⟩) hHeld ?_ ?_
 rotate_left; (rintro w' ⟨s0, s1, s2⟩; go_simp; with_reducible rfl); rotate_left; (simp only [Act.put, s1_, s2_, s3_, i64_w, i32_w]; rfl)
 refine pq_ (i := 6) (N := (some 9)) (v := ?_) (a' := ?_) rfl rfl (by kernel_rfl) (fun _ _ _ h => h) (Or.inl ⟨by rfl, ?_⟩) ?_ ?_
 rotate_left; (intro w'; go_simp; with_reducible rfl); rotate_left; (simp only [Act.put, s1_, s2_, s3_, i64_w, i32_w]; rfl)
 refine pq_ (i := 7) (N := (some 10)) (v := ?_) (a' := ?_) rfl rfl (by kernel_rfl) (fun _ _ _ h => h) (Or.inl ⟨by rfl, ?_⟩) ?_ ?_
 rotate_left; (intro w'; go_simp; with_reducible rfl); rotate_left; (simp only [Act.put, s1_, s2_, s3_, i64_w, i32_w]; rfl)
 refine tq_ (i := 8) (N := (some 11)) (v := ?_) (a' := ?_) rfl rfl (by kernel_rfl) (fun _ _ _ h => h) (Or.inl ⟨by rfl, ?_⟩) hHeld ?_ ?_
 rotate_left; (rintro w' ⟨s0, s1, s2⟩; go_simp; with_reducible rfl); rotate_left; (simp only [Act.put, s1_, s2_, s3_, i64_w, i32_w]; rfl)
 refine pq_ (i := 9) (N := (some 12)) (v := ?_) (a' := ?_) rfl rfl (by kernel_rfl) (fun _ _ _ h => h) (Or.inl ⟨by rfl, ?_⟩) ?_ ?_
 rotate_left; (intro w'; go_simp; with_reducible rfl); rotate_left; (simp only [Act.put, s1_, s2_, s3_, i64_w, i32_w]; rfl)
 clear hHeld
 refine last_ (i := 10) (N := none) #[true, true, true, true, true, true, true, true, true, true, true] rfl rfl (by kernel_rfl) (by decide) (fun K hK => ?_)
 refine skip_ (w1 := ?_) (by rfl) rfl ?_ ?_
 rotate_left
 ·go_simp
  rfl
 refine hK.out _ _ ?_
 clear hK K
 refine done_ (by kernel_rfl) ?_
 have hFF := hid (show (((W1.setCell ⟨w.heap.size, 0, none⟩ (.int .i64 q1)).setCell ⟨w.heap.size, 1, none⟩ (.int .i64 q2)).setCell ⟨w.heap.size, 2, none⟩ (.int .i64 q3)).heap[w.heap.size]? = some (.cells #[.int .i64 q1, .int .i64 q2, .int .i64 q3] 79 (0, 0)) from blk_set (blk_set (blk_set hR 0 _) 1 _) 2 _)
 have hW : Wi W1 (((W1.setCell ⟨w.heap.size, 0, none⟩ (.int .i64 q1)).setCell ⟨w.heap.size, 1, none⟩ (.int .i64 q2)).setCell ⟨w.heap.size, 2, none⟩ (.int .i64 q3)) w.heap.size (w.heap.size + 1) := (((Wi.refl _ _ _).trans (Wi.set _ _ 0 _)).trans (Wi.set _ _ 1 _)).trans (Wi.set _ _ 2 _)
 have HBF := hid ((b0.then_wi hW (Nat.le_refl _)).trans (Bw.drawn (b := (((W1.setCell ⟨w.heap.size, 0, none⟩ (.int .i64 q1)).setCell ⟨w.heap.size, 1, none⟩ (.int .i64 q2)).setCell ⟨w.heap.size, 2, none⟩ (.int .i64 q3)).drew) ⟨⟨1, rfl⟩⟩))
 clear hW hR
 go_wp2
 refine bodyPost_ret (results_cell_row rfl _ _ w.heap.size 79 #[.int .i64 q1, .int .i64 q2, .int .i64 q3] (0, 0) _ rfl hFF.out Try.underlying79 rfl (by kernel_rfl)) rfl ?_
 exact ⟨rfl, HBF.out⟩
end Go.Proofs.Ytkhjkcefkampkaa.U
set_option linter.unusedVariables false
set_option linter.unusedSimpArgs false
namespace Go.Proofs.Ytkhjkcefkampkaa.U
open Go.RowKit Go.Lib Go.Proofs.YtkhjkcefkampkaaW.PrintWords
open Go.Proofs.YtkhjkcefkampkaaW.PrintLast Go.Proofs.YtkhjkcefkampkaaW.PrintMore
def afV (a b : Sd) (t : Int) : Int := if actB t (bigMax a.l b.l) = true then pairF a.s b.s a.m b.m a.l b.l else 0
theorem faceV_af {a b : Sd} {t : Int} (ha : a.e = 1) (hb : b.e = 1) : faceV a b t = afV a b t := by
 unfold faceV afV
 by_cases h : actB t (bigMax a.l b.l) = true
 ·rw [if_pos ⟨ha, hb, h⟩, if_pos h]
 ·rw [if_neg (fun e => h e.2.2), if_neg h]
theorem faceV_no {a b : Sd} {t : Int} (h : ¬ (a.e = 1 ∧ b.e = 1)) : faceV a b t = 0 := if_neg fun e => h ⟨e.1, e.2.1⟩
def locAt (lv : List Ce) (ms bd gh : List Int) (t : Int) (i : Nat) : Int := faceV (sdA lv ms bd gh i) (sdA lv ms bd gh (i + 1)) t
theorem locL_yes {lv : List Ce} {ms bd gh : List Int} {t : Int} (h : usable lv ms bd gh = true) : locL lv ms bd gh t = rowOf (lv.length + 1) (locAt lv ms bd gh t) := if_pos h
theorem row_skip {n k : Nat} (f : Nat → Int) (h : f k = 0) : rowOf n (mixf f (fun _ => 0) k) = rowOf n (mixf f (fun _ => 0) (k + 1)) := by
 refine rowOf_congr fun q hq => ?_
 unfold mixf
 by_cases e : q < k
 ·rw [if_pos e, if_pos (by omega)]
 ·rw [if_neg e]
  by_cases e2 : q = k
  ·subst e2; rw [if_pos (by omega), h]
  ·rw [if_neg (by omega)]
theorem make_n1 (n : Nat) (hn : n ≤ 2000000) : ∀ W : World, (Instr.makeSlice 31 (.int .i64 ((n : Int) + 1)) (.int .i64 ((n : Int) + 1))).run Try.prog W = .ok (.slice (some ⟨W.heap.size, 0, none⟩) (n + 1) (n + 1)) (W.alloc (.cells (madeCells #[.int .i64 0] (n + 1)) 3)) := fun W => by
 have h := make_st (P := Try.prog) 31 3 (.int .i64 0) 1 8 Try.underlying31 info_int (n + 1) (by omega) (by omega) W
 rw [show ((n + 1 : Nat) : Int) = (n : Int) + 1 by omega] at h
 rw [h, Nat.mul_one]
 rfl
theorem sub_rd (l : List Int) (i q : Nat) (hq : q < 4) : rd ((l.drop i).take 4) (q : Int) = rd l ((i + q : Nat) : Int) := by
 rw [rd_nat, rd_nat, List.getD_eq_getElem?_getD, List.getD_eq_getElem?_getD, List.getElem?_take, if_pos hq, List.getElem?_drop]
set_option maxHeartbeats 8000000 in
set_option maxRecDepth 100000 in
theorem impl_LocalFluxes (ro fr : Int) (Al Am At Ab Ag : Option Addr) (n nm nt nb ng cl cm ct cb cg : Nat) (lv : List Ce) (ms bd gh : List Int) (t : Int) (w : World) (rl : IdR w Al n lv) (rm : RI w Am nm ms) (rb : RI w Ab nb bd) (rg : RI w Ag ng gh) (hcg : ng ≤ cg) (hn : n ≤ 1048576) (ht : t ≤ 9223372036854775807) :
  Calls Try.prog 18 #[.agg #[.int .i64 ro, .int .i64 fr, .slice Al n cl, .slice Am nm cm, .slice At nt ct, .slice Ab nb cb, .slice Ag ng cg], .int .i64 t] w fun e w' => ∃ v, e = .returned v ∧ OI w' w.heap.size v (locL lv ms bd gh t).length (locL lv ms bd gh t) ∧ Bw w w' := by
 have b0 := Bw.box1 w (.cells #[.int .i64 ro, .int .i64 fr, .slice Al n cl, .slice Am nm cm, .slice At nt ct, .slice Ab nb cb, .slice Ag ng cg] 38)
 have g0 := box_cell (Bw.refl (w.alloc (.cells #[.int .i64 ro, .int .i64 fr, .slice Al n cl, .slice Am nm cm, .slice At nt ct, .slice Ab nb cb, .slice Ag ng cg] 38))) 0
 have g1 := box_cell (Bw.refl (w.alloc (.cells #[.int .i64 ro, .int .i64 fr, .slice Al n cl, .slice Am nm cm, .slice At nt ct, .slice Ab nb cb, .slice Ag ng cg] 38))) 1
 have g2 := box_cell (Bw.refl (w.alloc (.cells #[.int .i64 ro, .int .i64 fr, .slice Al n cl, .slice Am nm cm, .slice At nt ct, .slice Ab nb cb, .slice Ag ng cg] 38))) 2
 have g3 := box_cell (Bw.refl (w.alloc (.cells #[.int .i64 ro, .int .i64 fr, .slice Al n cl, .slice Am nm cm, .slice At nt ct, .slice Ab nb cb, .slice Ag ng cg] 38))) 3
 have g4 := box_cell (Bw.refl (w.alloc (.cells #[.int .i64 ro, .int .i64 fr, .slice Al n cl, .slice Am nm cm, .slice At nt ct, .slice Ab nb cb, .slice Ag ng cg] 38))) 4
 have g5 := box_cell (Bw.refl (w.alloc (.cells #[.int .i64 ro, .int .i64 fr, .slice Al n cl, .slice Am nm cm, .slice At nt ct, .slice Ab nb cb, .slice Ag ng cg] 38))) 5
 have g6 := box_cell (Bw.refl (w.alloc (.cells #[.int .i64 ro, .int .i64 fr, .slice Al n cl, .slice Am nm cm, .slice At nt ct, .slice Ab nb cb, .slice Ag ng cg] 38))) 6
 simp only [List.getElem?_toArray, List.getElem?_cons_zero, List.getElem?_cons_succ] at g0 g1 g2 g3 g4 g5 g6
 have hln := rl.len
 cases hu : usable lv ms bd gh with
 | false =>
  have HU := hid hu
  have HL := hid (show locL lv ms bd gh t = [] by rw [locL, hu]; rfl)
  clear hu hln
  go_enter Try.func18, Try.ntmps18
  go_upto_region 1 with fail
  generalize (w.alloc (.cells #[.int .i64 ro, .int .i64 fr, .slice Al n cl, .slice Am nm cm, .slice At nt ct, .slice Ab nb cb, .slice Ag ng cg] 38)) = W1 at *
  go_wp2_with fail
  refine (impl_sides ro fr Al Am At Ab Ag n nm nt nb ng cl cm ct cb cg lv ms bd gh _ (rl.to b0) (rm.to b0) (rb.to b0) (rg.to b0) hcg hn).mono ?_
  rintro e w2 ⟨v, rfl, _, b2⟩
  rw [HU.out]
  go_wp2
  go_ret
  exact ⟨_, rfl, by rw [HL.out]; exact OI.nil _ _, b0.trans b2⟩
 | true =>
  have hp := usable_parts hu
  have hng : ng = 8 := by rw [← rg.len]; exact hp.2.2.1
  subst hng
  have h1n : 1 ≤ n := by omega
  obtain ⟨ag, rfl, _⟩ := rg.nat 0 (by omega)
  have HU := hid hu
  have HLN := hid hln
  have HL := hid (show locL lv ms bd gh t = rowOf (n + 1) (locAt lv ms bd gh t) by rw [locL_yes hu, hln])
  have HSD := hid (sdA_ok hu)
  have HHV := hid (halves ag cg hcg)
  have hkm := make_n1 n (by omega)
  have HKM := hid hkm
  have hk0 := hid (heap_alloc_new w (.cells #[.int .i64 ro, .int .i64 fr, .slice Al n cl, .slice Am nm cm, .slice At nt ct, .slice Ab nb cb, .slice (some ag) 8 cg] 38 (0, 0)))
  have HS0 := hid (show sdA lv ms bd gh 0 = ghS gh 0 from rfl)
  have HSL := hid (show ∀ i, i < n → sdA lv ms bd gh (i + 1) = lfS lv ms bd i from fun i hi => by rw [sdA, if_neg (by omega), if_pos (by omega)]; rfl)
  have HSN := hid (show sdA lv ms bd gh (n + 1) = ghS gh 4 by rw [sdA, if_neg (by omega), if_neg (by omega)])
  clear hu hln hp hkm
  go_enter Try.func18, Try.ntmps18
  go_upto_region 1 with fail
  have HSZ0 := hid (show (w.alloc (.cells #[.int .i64 ro, .int .i64 fr, .slice Al n cl, .slice Am nm cm, .slice At nt ct, .slice Ab nb cb, .slice (some ag) 8 cg] 38)).heap.size = w.heap.size + 1 by simp)
  generalize (w.alloc (.cells #[.int .i64 ro, .int .i64 fr, .slice Al n cl, .slice Am nm cm, .slice At nt ct, .slice Ab nb cb, .slice (some ag) 8 cg] 38)) = W0 at *
  go_wp2_with fail
  refine (impl_sides ro fr Al Am At Ab (some ag) n nm nt nb 8 cl cm ct cb cg lv ms bd gh _ (rl.to b0) (rm.to b0) (rb.to b0) (rg.to b0) hcg hn).mono ?_
  rintro e w2 ⟨v, rfl, hF, b2⟩
  rw [HU.out]
  have hF2 := hF HU.out
  obtain ⟨As, cs_, rfl, _, _⟩ := hF2.reads
  obtain ⟨gs, rfl, hgs, hgs2, _⟩ := hF2.form h1n
  have bZ := Bw.box1 w2 (.cells (madeCells #[.int .i64 0] (n + 1)) 3)
  have HFS := hid (hF2.to bZ)
  have HB := hid ((b0.trans b2).trans bZ)
  have HW0 := hid (b2.trans bZ)
  have hG0 := hid (show OI (w2.alloc (.cells (madeCells #[.int .i64 0] (n + 1)) 3)) w2.heap.size (.slice (some ⟨w2.heap.size, 0, none⟩) (n + 1) (n + 1)) (n + 1) (rowOf (n + 1) (mixf (locAt lv ms bd gh t) (fun _ => 0) 0)) from ⟨by rw [mixf_zero, ← rowOf_zero]; exact own_made w2 w2.heap.size 3 .i64 (n + 1) (Nat.le_refl _) (by omega)⟩)
  have hsz2 : W0.heap.size ≤ w2.heap.size := b2.size
  have en1 : IntKind.i64.wrap ((n : Int) + 1) = (n : Int) + 1 := i64w (by omega) (by omega)
  obtain ⟨q, hqn⟩ : ∃ q, n = q + 1 := ⟨n - 1, by clear en1; omega⟩
  have HQN := hid hqn
  have hqb : q < n ∧ q + 1 ≤ n := by clear en1; omega
  have en2 : IntKind.i64.wrap ((n : Int) - 1) = (q : Int) := by rw [hqn]; exact (i64w (by clear en1; omega) (by clear en1; omega)).trans (by clear en1; omega)
  have en3 : IntKind.i64.wrap ((q : Int) + 1) = (n : Int) := by rw [hqn]; exact (i64w (by clear en1 en2; omega) (by clear en1 en2; omega)).trans (by clear en1 en2; omega)
  have hn0N : 0 < n := h1n
  have hn0 : (0 : Int) < (n : Int) := by clear en1 en2 en3; omega
  have hn00 : (0 : Int) < (n : Int) + 1 := by clear en1 en2 en3; omega
  clear hqn
  have hkm := HKM.out
  replace g0 := pw_cell_below (b2.trans bZ).out g0
  replace g1 := pw_cell_below (b2.trans bZ).out g1
  replace g2 := pw_cell_below (b2.trans bZ).out g2
  replace g3 := pw_cell_below (b2.trans bZ).out g3
  replace g4 := pw_cell_below (b2.trans bZ).out g4
  replace g5 := pw_cell_below (b2.trans bZ).out g5
  replace g6 := pw_cell_below (b2.trans bZ).out g6
  clear hF hF2 b2 bZ b0
  go_upto_region 7 with fail
  generalize (w2.alloc (.cells (madeCells #[.int .i64 0] (n + 1)) 3)) = W1 at *
  generalize w2.heap.size = G at *
  clear hkm g0 g1 g2 g3 g4 g5 en1
  have HK1 := hid ((HW0.out.out.block _ (blk_lt hk0.out)).trans hk0.out)
  have hGw : w.heap.size < G := by have := HSZ0.out; clear en2 en3; omega
  have hgsG : ∀ b, (Value.slice (some ⟨gs, 0, none⟩) n cs_).ownBlock = some b → b ≠ G ∧ b ≠ G := fun b hb => by
   have e : gs = b := by simpa [Value.ownBlock] using hb
   clear en2 en3
   constructor <;> omega
  have HGS := hid hgsG
  clear hgsG
  obtain ⟨_, eg, xg0⟩ := (rg.to HB.out).nat 0 (by omega)
  obtain rfl := Option.some.inj eg
  have hxg0 : W1.cell? ag = some (.int .i64 (ghS gh 0).e) := xg0
  clear xg0 eg
  have HS1 := hid (HSD.out 0)
  have HD1 := hid (HSD.out 1)
  rw [HS0.out] at HS1
  rw [HSL.out 0 h1n] at HD1
  -- what holds behind the left face
  by_cases he : (ghS gh 0).e = 1
  ·have u1 : ((ghS gh 0).e == 1) = true := by simp [he]
   obtain ⟨D0, hD⟩ : ∃ D, lfS lv ms bd 0 = D := ⟨_, rfl⟩
   have hD1 : D0.e = 1 := by rw [← hD]; rfl
   have hc := sdF_rd lv ms bd 0 n h1n
   rw [hD] at hc HD1
   have c0 := (HFS.out.cell (j := 0) (by omega)).1
   have c1 := (HFS.out.cell (j := 1) (by omega)).1
   have c2 := (HFS.out.cell (j := 2) (by omega)).1
   rw [show rd (sdF lv ms bd n) ((0 : Nat) : Int) = D0.l from hc.1] at c0
   rw [show rd (sdF lv ms bd n) ((1 : Nat) : Int) = D0.m from hc.2.1] at c1
   rw [show rd (sdF lv ms bd n) ((2 : Nat) : Int) = D0.s from hc.2.2] at c2
   obtain ⟨y, hy⟩ : ∃ y, afV (ghS gh 0) D0 t = y := ⟨_, rfl⟩
   have HV := hid (show (if actB t (bigMax (ghS gh 0).l D0.l) = true then pairF (ghS gh 0).s D0.s (ghS gh 0).m D0.m (ghS gh 0).l D0.l else 0) = y from hy)
   have HLA := hid (show y = locAt lv ms bd gh t 0 by rw [locAt, HS0.out, HSL.out 0 h1n, hD, faceV_af he hD1, hy])
   have HDA := HS1
   have HDB := HD1
   have s4 := HHV.out.1
   have hxf := oi_cell hG0.out 0 (by omega)
   have hx0 := hxf.1
   have hf0 := hxf.2
   have rg1 := (rg.to HB.out).sub 0 4 (by omega) (by omega)
   have ha0 : ag.add 0 = ag := rfl
   rw [ha0] at rg1
   clear ha0 hc hD hD1 hy hxf
   go_upto_region 8 with fail
   have bD := Bw.drawn (a := W1) ⟨⟨1, rfl⟩⟩
   refine start_ (n := 13) (S := fun w' => w'.cell? ⟨w.heap.size, 6, none⟩ = some (.slice (some ag) 8 cg) ∧ w'.cell? ⟨gs, 0, none⟩ = some (.int .i64 D0.l) ∧ w'.cell? ⟨gs, 1, none⟩ = some (.int .i64 D0.m) ∧ w'.cell? ⟨gs, 2, none⟩ = some (.int .i64 D0.s)) (ds := [12]) #[false, false, false, false, false, false, false, false, false, false, false, false, false] (by kernel_rfl) rfl rfl ⟨g6, c0, c1, c2⟩ (fun hHeld => ?_)
   refine pq_ (i := 0) (N := (some 30)) (v := ?_) (a' := ?_) rfl rfl (by kernel_rfl) (fun _ _ _ h => h) (Or.inl ⟨by rfl, ?_⟩) ?_ ?_
   rotate_left; (intro w'; go_simp; with_reducible rfl); rotate_left; (simp only [Act.put, s1_, s2_, s3_, i64_w, i32_w]; rfl)
   refine pq_ (i := 1) (N := (some 31)) (v := ?_) (a' := ?_) rfl rfl (by kernel_rfl) (fun _ _ _ h => h) (Or.inl ⟨by rfl, ?_⟩) ?_ ?_
   rotate_left; (intro w'; go_simp; with_reducible rfl); rotate_left; (simp only [Act.put, s1_, s2_, s3_, i64_w, i32_w]; rfl)
   refine pq_ (i := 2) (N := (some 32)) (v := ?_) (a' := ?_) rfl rfl (by kernel_rfl) (fun _ _ _ h => h) (Or.inl ⟨by rfl, ?_⟩) ?_ ?_
   rotate_left; (intro w'; go_simp; with_reducible rfl); rotate_left; (simp only [Act.put, s1_, s2_, s3_, i64_w, i32_w]; rfl)
   refine tq_ (i := 3) (N := (some 33)) (v := ?_) (a' := ?_) rfl rfl (by kernel_rfl) (fun _ _ _ h => h) (Or.inl ⟨by rfl, ?_⟩) hHeld ?_ ?_
   rotate_left; (rintro w' ⟨s0, s1, s2, s3⟩; go_simp; with_reducible rfl); rotate_left; (simp only [Act.put, s1_, s2_, s3_, i64_w, i32_w]; rfl)
   refine pq_ (i := 4) (N := (some 34)) (v := ?_) (a' := ?_) rfl rfl (by kernel_rfl) (fun _ _ _ h => h) (Or.inl ⟨by rfl, ?_⟩) ?_ ?_
   rotate_left; (intro w'; go_simp; with_reducible rfl); rotate_left; (simp only [Act.put, s1_, s2_, s3_, i64_w, i32_w]; rfl)
   refine pq_ (i := 6) (N := (some 36)) (v := ?_) (a' := ?_) rfl rfl (by kernel_rfl) (fun _ _ _ h => h) (Or.inl ⟨by rfl, ?_⟩) ?_ ?_
   rotate_left; (intro w'; go_simp; with_reducible rfl); rotate_left; (simp only [Act.put, s1_, s2_, s3_, i64_w, i32_w]; rfl)
   refine pq_ (i := 7) (N := (some 37)) (v := ?_) (a' := ?_) rfl rfl (by kernel_rfl) (fun _ _ _ h => h) (Or.inl ⟨by rfl, ?_⟩) ?_ ?_
   rotate_left; (intro w'; go_simp; with_reducible rfl); rotate_left; (simp only [Act.put, s1_, s2_, s3_, i64_w, i32_w]; rfl)
   refine tq_ (i := 8) (N := (some 38)) (v := ?_) (a' := ?_) rfl rfl (by kernel_rfl) (fun _ _ _ h => h) (Or.inl ⟨by rfl, ?_⟩) hHeld ?_ ?_
   rotate_left; (rintro w' ⟨s0, s1, s2, s3⟩; go_simp; with_reducible rfl); rotate_left; (simp only [Act.put, s1_, s2_, s3_, i64_w, i32_w]; rfl)
   refine pq_ (i := 9) (N := (some 39)) (v := ?_) (a' := ?_) rfl rfl (by kernel_rfl) (fun _ _ _ h => h) (Or.inl ⟨by rfl, ?_⟩) ?_ ?_
   rotate_left; (intro w'; go_simp; with_reducible rfl); rotate_left; (simp only [Act.put, s1_, s2_, s3_, i64_w, i32_w]; rfl)
   refine one_ (i := 5) (N := (some 35)) #[true, true, true, true, true, true, true, true, true, true, false, false, false] rfl rfl (by kernel_rfl) (by decide) (fun K hK => ?_)
   refine goesV_ (t := 31) Try.func52 (by kernel_rfl) rfl #[.slice (some ag) 4 cg] (by rfl) rfl rfl rfl (by (try simp only [List.map_toArray, List.map_cons, List.map_nil]); first | done | rfl) ?_
   refine (ghostC _ _ _ _ (rg1.to bD)).mono ?_
   rintro e wa ⟨rfl, ba⟩
   refine ⟨_, rfl, ?_⟩
   rw [sub_rd gh 0 1 (by decide), sub_rd gh 0 2 (by decide), sub_rd gh 0 3 (by decide)]
   have bA := bD.trans ba
   refine hK.out _ _ ⟨pw_cell_below bA.out g6, pw_cell_below bA.out c0, pw_cell_below bA.out c1, pw_cell_below bA.out c2⟩ (fun hHeld => ?_)
   clear hK K; refine norm_ (a' := ?_) ?_ ?_; rotate_left; (show Act.put _ (some 35) _ = _; simp only [Act.put, s1_, s2_, s3_, i64_w, i32_w]; rfl)
   refine one_ (i := 10) (N := (some 40)) #[true, true, true, true, true, true, true, true, true, true, true, false, false] rfl rfl (by kernel_rfl) (by decide) (fun K hK => ?_)
   refine goes_ Try.func53 (by kernel_rfl) rfl #[.agg #[.int .i64 (ghS gh 0).l, .int .i64 (ghS gh 0).m, .int .i64 (ghS gh 0).s], .agg #[.int .i64 D0.l, .int .i64 D0.m, .int .i64 D0.s], .int .i64 t] (by rfl) rfl rfl (by (try simp only [List.map_toArray, List.map_cons, List.map_nil]); first | done | rfl) ?_
   refine (impl_activeFlux (ghS gh 0) D0 t _ HDA.out HDB.out ht).mono ?_
   rintro e wb ⟨rfl, bb⟩
   refine ⟨_, rfl, ?_⟩
   rw [HV.out]
   have bB := bA.trans bb
   refine hK.out _ _ ⟨pw_cell_below bB.out g6, pw_cell_below bB.out c0, pw_cell_below bB.out c1, pw_cell_below bB.out c2⟩ (fun hHeld => ?_)
   clear hK K; refine norm_ (a' := ?_) ?_ ?_; rotate_left; (show Act.put _ (some 40) _ = _; simp only [Act.put, s1_, s2_, s3_, i64_w, i32_w]; rfl)
   refine pq_ (i := 11) (N := (some 41)) (v := ?_) (a' := ?_) rfl rfl (by kernel_rfl) (fun _ _ _ h => h) (Or.inl ⟨by rfl, ?_⟩) ?_ ?_
   rotate_left; (intro w'; go_simp; with_reducible rfl); rotate_left; (simp only [Act.put, s1_, s2_, s3_, i64_w, i32_w]; rfl)
   clear hHeld
   obtain ⟨hx0, hf0⟩ := oi_cell (hG0.out.to bB) 0 (by omega)
   refine last_ (i := 12) (N := none) #[true, true, true, true, true, true, true, true, true, true, true, true, true] rfl rfl (by kernel_rfl) (by decide) (fun K hK => ?_)
   refine skip_ (w1 := ?_) (by rfl) rfl ?_ ?_
   rotate_left
   ·go_simp
    rfl
   refine hK.out _ _ ?_
   clear hK K
   refine done_ (by kernel_rfl) ?_
   have HU1 := hid (((Uw.refl W1 G G).bw bB).set G 0 (.int .i64 y) (Or.inl rfl))
   have HG1 := hid (show OI (wb.setCell ⟨G, 0, none⟩ (.int .i64 y)) G (.slice (some ⟨G, 0, none⟩) (n + 1) (n + 1)) (n + 1) (rowOf (n + 1) (mixf (locAt lv ms bd gh t) (fun _ => 0) (0 + 1))) from by have h := oi_store (hG0.out.to bB) 0 y; rwa [mixf_step _ _ _ _ _ HLA.out] at h)
   clear c0 c1 c2 hx0 hf0 hxg0 g6 rg1 s4
   generalize (wb.setCell ⟨G, 0, none⟩ (.int .i64 y)) = W5 at *
   go_wp2
   go_loopw [43] (fun v43 wr => ∃ j : Nat, j ≤ q ∧ v43 = .int .i64 j ∧ Hid (Uw W1 wr G G) ∧ Hid (OI wr G (.slice (some ⟨G, 0, none⟩) (n + 1) (n + 1)) (n + 1) (rowOf (n + 1) (mixf (locAt lv ms bd gh t) (fun _ => 0) (j + 1))))) (fun v43 _ => q - (intOf v43).toNat)
   case atStart => exact ⟨0, by omega, rfl, HU1, HG1⟩
   case round =>
    obtain ⟨j, hj, rfl, hU, hGr⟩ := hrel
    have HFr := hid (hU.out.fo HFS.out HGS.out)
    by_cases hlt : j < q
    ·have t1 : decide ((j : Int) < (q : Int)) = true := decide_eq_true (by clear en2 en3; omega)
     have e1 : IntKind.i64.wrap ((j : Int) + 1) = (j : Int) + 1 := i64w (by clear en2 en3; omega) (by clear en2 en3; omega)
     have hjn : j < n ∧ j + 1 < n ∧ j + 1 < n + 1 := by clear e1 en2 en3; omega
     have i0 : (0 : Int) ≤ (j : Int) := by clear e1 en2 en3; omega
     have i1 : (j : Int) < (n : Int) := by clear e1 en2 en3; omega
     have i2 : (0 : Int) ≤ (j : Int) + 1 := by clear e1 en2 en3; omega
     have i3 : (j : Int) + 1 < (n : Int) := by clear e1 en2 en3; omega
     have i4 : (j : Int) + 1 < (n : Int) + 1 := by clear e1 en2 en3; omega
     have hkk := hid (show j + 1 ≤ q ∧ q - (j + 1) < q - j by clear e1 en2 en3; omega)
     obtain ⟨D0, hD0⟩ : ∃ D, lfS lv ms bd j = D := ⟨_, rfl⟩
     obtain ⟨D1, hD1⟩ : ∃ D, lfS lv ms bd (j + 1) = D := ⟨_, rfl⟩
     have hc0 := sdF_rd lv ms bd j n hjn.1
     have hc1 := sdF_rd lv ms bd (j + 1) n hjn.2.1
     rw [hD0] at hc0
     rw [hD1] at hc1
     have c0 := (HFr.out.cell (j := j * 3) (by clear e1 en2 en3; omega)).1
     have c1 := (HFr.out.cell (j := j * 3 + 1) (by clear e1 en2 en3; omega)).1
     have c2 := (HFr.out.cell (j := j * 3 + 2) (by clear e1 en2 en3; omega)).1
     have d0 := (HFr.out.cell (j := (j + 1) * 3) (by clear e1 en2 en3; omega)).1
     have d1 := (HFr.out.cell (j := (j + 1) * 3 + 1) (by clear e1 en2 en3; omega)).1
     have d2 := (HFr.out.cell (j := (j + 1) * 3 + 2) (by clear e1 en2 en3; omega)).1
     rw [hc0.1] at c0
     rw [hc0.2.1] at c1
     rw [hc0.2.2] at c2
     rw [hc1.1] at d0
     rw [hc1.2.1] at d1
     rw [hc1.2.2] at d2
     obtain ⟨y, hy⟩ : ∃ y, afV D0 D1 t = y := ⟨_, rfl⟩
     have HV := hid (show (if actB t (bigMax D0.l D1.l) = true then pairF D0.s D1.s D0.m D1.m D0.l D1.l else 0) = y from hy)
     have HLA := hid (show y = locAt lv ms bd gh t (j + 1) by rw [locAt, HSL.out j hjn.1, HSL.out (j + 1) hjn.2.1, hD0, hD1, faceV_af (by rw [← hD0]; rfl) (by rw [← hD1]; rfl), hy])
     have HDA := hid (show SdOk D0 by have h := HSD.out (j + 1); rw [HSL.out j hjn.1, hD0] at h; exact h)
     have HDB := hid (show SdOk D1 by have h := HSD.out (j + 1 + 1); rw [HSL.out (j + 1) hjn.2.1, hD1] at h; exact h)
     clear hD0 hD1 hc0 hc1 hy
     go_upto_region 12 with fail
     have bD := Bw.drawn (a := wr) ⟨⟨1, rfl⟩⟩
     refine start_ (n := 16) (S := fun w' => w'.cell? ⟨gs, j * 3, none⟩ = some (.int .i64 D0.l) ∧ w'.cell? ⟨gs, j * 3 + 1, none⟩ = some (.int .i64 D0.m) ∧ w'.cell? ⟨gs, j * 3 + 2, none⟩ = some (.int .i64 D0.s) ∧ w'.cell? ⟨gs, (j + 1) * 3, none⟩ = some (.int .i64 D1.l) ∧ w'.cell? ⟨gs, (j + 1) * 3 + 1, none⟩ = some (.int .i64 D1.m) ∧ w'.cell? ⟨gs, (j + 1) * 3 + 2, none⟩ = some (.int .i64 D1.s)) (ds := [15]) #[false, false, false, false, false, false, false, false, false, false, false, false, false, false, false, false] (by kernel_rfl) rfl rfl ⟨c0, c1, c2, d0, d1, d2⟩ (fun hHeld => ?_)
     refine pq_ (i := 0) (N := (some 46)) (v := ?_) (a' := ?_) rfl rfl (by kernel_rfl) (fun _ _ _ h => h) (Or.inl ⟨by rfl, ?_⟩) ?_ ?_
     rotate_left; (intro w'; go_simp; with_reducible rfl); rotate_left; (simp only [Act.put, s1_, s2_, s3_, i64_w, i32_w]; rfl)
     refine pq_ (i := 1) (N := (some 47)) (v := ?_) (a' := ?_) rfl rfl (by kernel_rfl) (fun _ _ _ h => h) (Or.inl ⟨by rfl, ?_⟩) ?_ ?_
     rotate_left; (intro w'; go_simp; with_reducible rfl); rotate_left; (simp only [Act.put, s1_, s2_, s3_, i64_w, i32_w]; rfl)
     refine pq_ (i := 2) (N := (some 48)) (v := ?_) (a' := ?_) rfl rfl (by kernel_rfl) (fun _ _ _ h => h) (Or.inl ⟨by rfl, ?_⟩) ?_ ?_
     rotate_left; (intro w'; go_simp; with_reducible rfl); rotate_left; (simp only [Act.put, s1_, s2_, s3_, i64_w, i32_w]; rfl)
     refine pq_ (i := 3) (N := (some 49)) (v := ?_) (a' := ?_) rfl rfl (by kernel_rfl) (fun _ _ _ h => h) (Or.inl ⟨by rfl, ?_⟩) ?_ ?_
     rotate_left; (intro w'; go_simp; with_reducible rfl); rotate_left; (simp only [Act.put, s1_, s2_, s3_, i64_w, i32_w]; rfl)
     refine pq_ (i := 4) (N := (some 50)) (v := ?_) (a' := ?_) rfl rfl (by kernel_rfl) (fun _ _ _ h => h) (Or.inl ⟨by rfl, ?_⟩) ?_ ?_
     rotate_left; (intro w'; go_simp; with_reducible rfl); rotate_left; (simp only [Act.put, s1_, s2_, s3_, i64_w, i32_w]; rfl)
     refine pq_ (i := 5) (N := (some 51)) (v := ?_) (a' := ?_) rfl rfl (by kernel_rfl) (fun _ _ _ h => h) (Or.inl ⟨by rfl, ?_⟩) ?_ ?_
     rotate_left; (intro w'; go_simp; with_reducible rfl); rotate_left; (simp only [Act.put, s1_, s2_, s3_, i64_w, i32_w]; rfl)
     refine tq_ (i := 6) (N := (some 52)) (v := ?_) (a' := ?_) rfl rfl (by kernel_rfl) (fun _ _ _ h => h) (Or.inl ⟨by rfl, ?_⟩) hHeld ?_ ?_
     rotate_left; (rintro w' ⟨s0, s1, s2, s3, s4, s5⟩; go_simp; with_reducible rfl); rotate_left; (simp only [Act.put, s1_, s2_, s3_, i64_w, i32_w]; rfl)
     refine pq_ (i := 7) (N := (some 53)) (v := ?_) (a' := ?_) rfl rfl (by kernel_rfl) (fun _ _ _ h => h) (Or.inl ⟨by rfl, ?_⟩) ?_ ?_
     rotate_left; (intro w'; go_simp; with_reducible rfl); rotate_left; (simp only [Act.put, s1_, s2_, s3_, i64_w, i32_w]; rfl)
     refine pq_ (i := 8) (N := (some 54)) (v := ?_) (a' := ?_) rfl rfl (by kernel_rfl) (fun _ _ _ h => h) (Or.inl ⟨by rfl, ?_⟩) ?_ ?_
     rotate_left; (intro w'; go_simp; with_reducible rfl); rotate_left; (simp only [Act.put, s1_, s2_, s3_, i64_w, i32_w]; rfl)
     refine pq_ (i := 9) (N := (some 55)) (v := ?_) (a' := ?_) rfl rfl (by kernel_rfl) (fun _ _ _ h => h) (Or.inl ⟨by rfl, ?_⟩) ?_ ?_
     rotate_left; (intro w'; go_simp; with_reducible rfl); rotate_left; (simp only [Act.put, s1_, s2_, s3_, i64_w, i32_w]; rfl)
     refine pq_ (i := 10) (N := (some 56)) (v := ?_) (a' := ?_) rfl rfl (by kernel_rfl) (fun _ _ _ h => h) (Or.inl ⟨by rfl, ?_⟩) ?_ ?_
     rotate_left; (intro w'; go_simp; with_reducible rfl); rotate_left; (simp only [Act.put, s1_, s2_, s3_, i64_w, i32_w]; rfl)
     refine tq_ (i := 11) (N := (some 57)) (v := ?_) (a' := ?_) rfl rfl (by kernel_rfl) (fun _ _ _ h => h) (Or.inl ⟨by rfl, ?_⟩) hHeld ?_ ?_
     rotate_left; (rintro w' ⟨s0, s1, s2, s3, s4, s5⟩; go_simp; with_reducible rfl); rotate_left; (simp only [Act.put, s1_, s2_, s3_, i64_w, i32_w]; rfl)
     refine pq_ (i := 12) (N := (some 58)) (v := ?_) (a' := ?_) rfl rfl (by kernel_rfl) (fun _ _ _ h => h) (Or.inl ⟨by rfl, ?_⟩) ?_ ?_
     rotate_left; (intro w'; go_simp; with_reducible rfl); rotate_left; (simp only [Act.put, s1_, s2_, s3_, i64_w, i32_w]; rfl)
     refine one_ (i := 13) (N := (some 59)) #[true, true, true, true, true, true, true, true, true, true, true, true, true, true, false, false] rfl rfl (by kernel_rfl) (by decide) (fun K hK => ?_)
     refine goes_ Try.func53 (by kernel_rfl) rfl #[.agg #[.int .i64 D0.l, .int .i64 D0.m, .int .i64 D0.s], .agg #[.int .i64 D1.l, .int .i64 D1.m, .int .i64 D1.s], .int .i64 t] (by rfl) rfl rfl (by (try simp only [List.map_toArray, List.map_cons, List.map_nil]); first | done | rfl) ?_
     refine (impl_activeFlux D0 D1 t _ HDA.out HDB.out ht).mono ?_
     rintro e wb ⟨rfl, bb⟩
     refine ⟨_, rfl, ?_⟩
     rw [HV.out]
     have bB := bD.trans bb
     refine hK.out _ _ ⟨pw_cell_below bB.out c0, pw_cell_below bB.out c1, pw_cell_below bB.out c2, pw_cell_below bB.out d0, pw_cell_below bB.out d1, pw_cell_below bB.out d2⟩ (fun hHeld => ?_)
     clear hK K; refine norm_ (a' := ?_) ?_ ?_; rotate_left; (show Act.put _ (some 59) _ = _; simp only [Act.put, s1_, s2_, s3_, i64_w, i32_w]; rfl)
     refine pq_ (i := 14) (N := (some 60)) (v := ?_) (a' := ?_) rfl rfl (by kernel_rfl) (fun _ _ _ h => h) (Or.inl ⟨by rfl, ?_⟩) ?_ ?_
     rotate_left; (intro w'; go_simp; with_reducible rfl); rotate_left; (simp only [Act.put, s1_, s2_, s3_, i64_w, i32_w]; rfl)
     clear hHeld
     obtain ⟨hx0, hf0⟩ := oi_cell (hGr.out.to bB) (j + 1) hjn.2.2
     refine last_ (i := 15) (N := none) #[true, true, true, true, true, true, true, true, true, true, true, true, true, true, true, true] rfl rfl (by kernel_rfl) (by decide) (fun K hK => ?_)
     refine skip_ (w1 := ?_) (by rfl) rfl ?_ ?_
     rotate_left
     ·go_simp
      rfl
     refine hK.out _ _ ?_
     clear hK K
     refine done_ (by kernel_rfl) ?_
     have HU2 := hid ((hU.out.bw bB).set G (j + 1) (.int .i64 y) (Or.inl rfl))
     have HG2 := hid (show OI (wb.setCell ⟨G, j + 1, none⟩ (.int .i64 y)) G (.slice (some ⟨G, 0, none⟩) (n + 1) (n + 1)) (n + 1) (rowOf (n + 1) (mixf (locAt lv ms bd gh t) (fun _ => 0) (j + 1 + 1))) from by have h := oi_store (hGr.out.to bB) (j + 1) y; rwa [mixf_step _ _ _ _ _ HLA.out] at h)
     clear c0 c1 c2 d0 d1 d2 hx0 hf0 hU hGr HFr
     generalize (wb.setCell ⟨G, j + 1, none⟩ (.int .i64 y)) = W6 at *
     go_wp2
     go_roundw
     case rel => exact ⟨j + 1, hkk.out.1, by go_num, HU2, HG2⟩
     case measure => simp [intOf]; clear e1 en2 en3; omega
    ·obtain rfl : q = j := by clear en2 en3; omega
     have t1 : decide ((q : Int) < (q : Int)) = false := decide_eq_false (by clear en2 en3; omega)
     have HBr := hid (hU.out.to HB.out (by clear en2 en3; omega) (by clear en2 en3; omega))
     have hk6 := hU.out.blk HK1.out (by clear en2 en3; omega) (by clear en2 en3; omega)
     have g6 := (blk_cell hk6 6).trans (show _ = some (Value.slice (some ag) 8 cg) from rfl)
     obtain ⟨_, eg, xg4⟩ := (rg.to HBr.out).nat 4 (by omega)
     obtain rfl := Option.some.inj eg
     rw [add_pos _ _ (by omega)] at xg4
     have hxg4 : wr.cell? ⟨ag.block, ag.off + 4, none⟩ = some (.int .i64 (ghS gh 4).e) := xg4
     clear xg4 eg hk6
     have hqn := HQN.out
     by_cases he4 : (ghS gh 4).e = 1
     ·have u2 : ((ghS gh 4).e == 1) = true := by simp [he4]
      obtain ⟨D0, hD⟩ : ∃ D, lfS lv ms bd q = D := ⟨_, rfl⟩
      have hc := sdF_rd lv ms bd q n hqb.1
      rw [hD] at hc
      have c0 := (HFr.out.cell (j := q * 3) (by clear en2 en3; omega)).1
      have c1 := (HFr.out.cell (j := q * 3 + 1) (by clear en2 en3; omega)).1
      have c2 := (HFr.out.cell (j := q * 3 + 2) (by clear en2 en3; omega)).1
      rw [hc.1] at c0
      rw [hc.2.1] at c1
      rw [hc.2.2] at c2
      obtain ⟨y, hy⟩ : ∃ y, afV D0 (ghS gh 4) t = y := ⟨_, rfl⟩
      have HV := hid (show (if actB t (bigMax D0.l (ghS gh 4).l) = true then pairF D0.s (ghS gh 4).s D0.m (ghS gh 4).m D0.l (ghS gh 4).l else 0) = y from hy)
      have HLA := hid (show y = locAt lv ms bd gh t n by
       have h1 := HSN.out
       have h2 := HSL.out q hqb.1
       rw [← hqn] at h2
       rw [locAt, h1, h2, hD, faceV_af (by rw [← hD]; rfl) he4, hy])
      have HDA := hid (show SdOk D0 by have h := HSD.out (q + 1); rw [HSL.out q hqb.1, hD] at h; exact h)
      have HDB := hid (show SdOk (ghS gh 4) by have h := HSD.out (n + 1); rw [HSN.out] at h; exact h)
      have s5 := HHV.out.2
      have rg2 := (rg.to HBr.out).sub 4 4 (by omega) (by omega)
      have i0 : (0 : Int) ≤ (q : Int) := by clear en2 en3; omega
      have i1 : (q : Int) < (n : Int) := by clear en2 en3; omega
      have i2 : (0 : Int) ≤ (n : Int) := by clear en2 en3; omega
      have i3 : (n : Int) < (n : Int) + 1 := by clear en2 en3; omega
      have HG5 := hid (show OI wr G (.slice (some ⟨G, 0, none⟩) (n + 1) (n + 1)) (n + 1) (rowOf (n + 1) (mixf (locAt lv ms bd gh t) (fun _ => 0) n)) by rw [← hqn] at hGr; exact hGr.out)
      clear hD hc hy hqn hGr
      go_upto_region 15 with fail
      have bD := Bw.drawn (a := wr) ⟨⟨1, rfl⟩⟩
      refine start_ (n := 16) (S := fun w' => w'.cell? ⟨w.heap.size, 6, none⟩ = some (.slice (some ag) 8 cg) ∧ w'.cell? ⟨gs, q * 3, none⟩ = some (.int .i64 D0.l) ∧ w'.cell? ⟨gs, q * 3 + 1, none⟩ = some (.int .i64 D0.m) ∧ w'.cell? ⟨gs, q * 3 + 2, none⟩ = some (.int .i64 D0.s)) (ds := [15]) #[false, false, false, false, false, false, false, false, false, false, false, false, false, false, false, false] (by kernel_rfl) rfl rfl ⟨g6, c0, c1, c2⟩ (fun hHeld => ?_)
      refine pq_ (i := 0) (N := (some 67)) (v := ?_) (a' := ?_) rfl rfl (by kernel_rfl) (fun _ _ _ h => h) (Or.inl ⟨by rfl, ?_⟩) ?_ ?_
      rotate_left; (intro w'; go_simp; with_reducible rfl); rotate_left; (simp only [Act.put, s1_, s2_, s3_, i64_w, i32_w]; rfl)
      refine pq_ (i := 1) (N := (some 68)) (v := ?_) (a' := ?_) rfl rfl (by kernel_rfl) (fun _ _ _ h => h) (Or.inl ⟨by rfl, ?_⟩) ?_ ?_
      rotate_left; (intro w'; go_simp; with_reducible rfl); rotate_left; (simp only [Act.put, s1_, s2_, s3_, i64_w, i32_w]; rfl)
      refine pq_ (i := 2) (N := (some 69)) (v := ?_) (a' := ?_) rfl rfl (by kernel_rfl) (fun _ _ _ h => h) (Or.inl ⟨by rfl, ?_⟩) ?_ ?_
      rotate_left; (intro w'; go_simp; with_reducible rfl); rotate_left; (simp only [Act.put, s1_, s2_, s3_, i64_w, i32_w]; rfl)
      refine pq_ (i := 3) (N := (some 70)) (v := ?_) (a' := ?_) rfl rfl (by kernel_rfl) (fun _ _ _ h => h) (Or.inl ⟨by rfl, ?_⟩) ?_ ?_
      rotate_left; (intro w'; go_simp; with_reducible rfl); rotate_left; (simp only [Act.put, s1_, s2_, s3_, i64_w, i32_w]; rfl)
      refine pq_ (i := 4) (N := (some 71)) (v := ?_) (a' := ?_) rfl rfl (by kernel_rfl) (fun _ _ _ h => h) (Or.inl ⟨by rfl, ?_⟩) ?_ ?_
      rotate_left; (intro w'; go_simp; with_reducible rfl); rotate_left; (simp only [Act.put, s1_, s2_, s3_, i64_w, i32_w]; rfl)
      refine pq_ (i := 5) (N := (some 72)) (v := ?_) (a' := ?_) rfl rfl (by kernel_rfl) (fun _ _ _ h => h) (Or.inl ⟨by rfl, ?_⟩) ?_ ?_
      rotate_left; (intro w'; go_simp; with_reducible rfl); rotate_left; (simp only [Act.put, s1_, s2_, s3_, i64_w, i32_w]; rfl)
      refine tq_ (i := 6) (N := (some 73)) (v := ?_) (a' := ?_) rfl rfl (by kernel_rfl) (fun _ _ _ h => h) (Or.inl ⟨by rfl, ?_⟩) hHeld ?_ ?_
      rotate_left; (rintro w' ⟨s0, s1, s2, s3⟩; go_simp; with_reducible rfl); rotate_left; (simp only [Act.put, s1_, s2_, s3_, i64_w, i32_w]; rfl)
      refine pq_ (i := 7) (N := (some 74)) (v := ?_) (a' := ?_) rfl rfl (by kernel_rfl) (fun _ _ _ h => h) (Or.inl ⟨by rfl, ?_⟩) ?_ ?_
      rotate_left; (intro w'; go_simp; with_reducible rfl); rotate_left; (simp only [Act.put, s1_, s2_, s3_, i64_w, i32_w]; rfl)
      refine pq_ (i := 8) (N := (some 75)) (v := ?_) (a' := ?_) rfl rfl (by kernel_rfl) (fun _ _ _ h => h) (Or.inl ⟨by rfl, ?_⟩) ?_ ?_
      rotate_left; (intro w'; go_simp; with_reducible rfl); rotate_left; (simp only [Act.put, s1_, s2_, s3_, i64_w, i32_w]; rfl)
      refine tq_ (i := 9) (N := (some 76)) (v := ?_) (a' := ?_) rfl rfl (by kernel_rfl) (fun _ _ _ h => h) (Or.inl ⟨by rfl, ?_⟩) hHeld ?_ ?_
      rotate_left; (rintro w' ⟨s0, s1, s2, s3⟩; go_simp; with_reducible rfl); rotate_left; (simp only [Act.put, s1_, s2_, s3_, i64_w, i32_w]; rfl)
      refine pq_ (i := 10) (N := (some 77)) (v := ?_) (a' := ?_) rfl rfl (by kernel_rfl) (fun _ _ _ h => h) (Or.inl ⟨by rfl, ?_⟩) ?_ ?_
      rotate_left; (intro w'; go_simp; with_reducible rfl); rotate_left; (simp only [Act.put, s1_, s2_, s3_, i64_w, i32_w]; rfl)
      refine pq_ (i := 12) (N := (some 79)) (v := ?_) (a' := ?_) rfl rfl (by kernel_rfl) (fun _ _ _ h => h) (Or.inl ⟨by rfl, ?_⟩) ?_ ?_
      rotate_left; (intro w'; go_simp; with_reducible rfl); rotate_left; (simp only [Act.put, s1_, s2_, s3_, i64_w, i32_w]; rfl)
      refine one_ (i := 11) (N := (some 78)) #[true, true, true, true, true, true, true, true, true, true, true, true, true, false, false, false] rfl rfl (by kernel_rfl) (by decide) (fun K hK => ?_)
      refine goesV_ (t := 74) Try.func52 (by kernel_rfl) rfl #[.slice (some (ag.add 4)) 4 (cg - 4)] (by rfl) rfl rfl rfl (by (try simp only [List.map_toArray, List.map_cons, List.map_nil]); first | done | rfl) ?_
      refine (ghostC _ _ _ _ (rg2.to bD)).mono ?_
      rintro e wa ⟨rfl, ba⟩
      refine ⟨_, rfl, ?_⟩
      rw [sub_rd gh 4 1 (by decide), sub_rd gh 4 2 (by decide), sub_rd gh 4 3 (by decide)]
      have bA := bD.trans ba
      refine hK.out _ _ ⟨pw_cell_below bA.out g6, pw_cell_below bA.out c0, pw_cell_below bA.out c1, pw_cell_below bA.out c2⟩ (fun hHeld => ?_)
      clear hK K; refine norm_ (a' := ?_) ?_ ?_; rotate_left; (show Act.put _ (some 78) _ = _; simp only [Act.put, s1_, s2_, s3_, i64_w, i32_w]; rfl)
      refine one_ (i := 13) (N := (some 80)) #[true, true, true, true, true, true, true, true, true, true, true, true, true, true, false, false] rfl rfl (by kernel_rfl) (by decide) (fun K hK => ?_)
      refine goes_ Try.func53 (by kernel_rfl) rfl #[.agg #[.int .i64 D0.l, .int .i64 D0.m, .int .i64 D0.s], .agg #[.int .i64 (ghS gh 4).l, .int .i64 (ghS gh 4).m, .int .i64 (ghS gh 4).s], .int .i64 t] (by rfl) rfl rfl (by (try simp only [List.map_toArray, List.map_cons, List.map_nil]); first | done | rfl) ?_
      refine (impl_activeFlux D0 (ghS gh 4) t _ HDA.out HDB.out ht).mono ?_
      rintro e wb ⟨rfl, bb⟩
      refine ⟨_, rfl, ?_⟩
      rw [HV.out]
      have bB := bA.trans bb
      refine hK.out _ _ ⟨pw_cell_below bB.out g6, pw_cell_below bB.out c0, pw_cell_below bB.out c1, pw_cell_below bB.out c2⟩ (fun hHeld => ?_)
      clear hK K; refine norm_ (a' := ?_) ?_ ?_; rotate_left; (show Act.put _ (some 80) _ = _; simp only [Act.put, s1_, s2_, s3_, i64_w, i32_w]; rfl)
      refine pq_ (i := 14) (N := (some 81)) (v := ?_) (a' := ?_) rfl rfl (by kernel_rfl) (fun _ _ _ h => h) (Or.inl ⟨by rfl, ?_⟩) ?_ ?_
      rotate_left; (intro w'; go_simp; with_reducible rfl); rotate_left; (simp only [Act.put, s1_, s2_, s3_, i64_w, i32_w]; rfl)
      clear hHeld
      obtain ⟨hx0, hf0⟩ := oi_cell (HG5.out.to bB) n (by clear en2 en3; omega)
      refine last_ (i := 15) (N := none) #[true, true, true, true, true, true, true, true, true, true, true, true, true, true, true, true] rfl rfl (by kernel_rfl) (by decide) (fun K hK => ?_)
      refine skip_ (w1 := ?_) (by rfl) rfl ?_ ?_
      rotate_left
      ·go_simp
       rfl
      refine hK.out _ _ ?_
      clear hK K
      refine done_ (by kernel_rfl) ?_
      have HB9 := hid ((hU.out.bw bB).set G n (.int .i64 y) (Or.inl rfl))
      have HG9 := hid (show OI (wb.setCell ⟨G, n, none⟩ (.int .i64 y)) G (.slice (some ⟨G, 0, none⟩) (n + 1) (n + 1)) (n + 1) (rowOf (n + 1) (locAt lv ms bd gh t)) from by
       have h := oi_store (HG5.out.to bB) n y
       rw [mixf_step _ _ _ _ _ HLA.out] at h
       rwa [rowOf_congr (fun i hi => mixf_all (locAt lv ms bd gh t) (fun _ => 0) hi)] at h)
      have HBF := hid (HB9.out.to HB.out (by clear en2 en3; omega) (by clear en2 en3; omega))
      clear c0 c1 c2 hx0 hf0 hU HG5
      generalize (wb.setCell ⟨G, n, none⟩ (.int .i64 y)) = W7 at *
      go_wp2
      go_ret
      exact ⟨_, rfl, by rw [HL.out, rowOf_len]; exact OI.base HG9.out (Nat.le_of_lt hGw), HBF.out⟩
     ·have u2 : ((ghS gh 4).e == 1) = false := by simp [he4]
      have hz : locAt lv ms bd gh t n = 0 := by
       rw [locAt, HSN.out, faceV_no (fun h => he4 h.2)]
      have HG9 := hid (show OI wr G (.slice (some ⟨G, 0, none⟩) (n + 1) (n + 1)) (n + 1) (rowOf (n + 1) (locAt lv ms bd gh t)) by
       rw [← hqn, row_skip _ hz, rowOf_congr (fun i hi => mixf_all (locAt lv ms bd gh t) (fun _ => 0) hi)] at hGr
       exact hGr.out)
      clear hz hGr hqn
      go_wp2
      go_ret
      exact ⟨_, rfl, by rw [HL.out, rowOf_len]; exact OI.base HG9.out (Nat.le_of_lt hGw), HBr.out⟩
  ·have u1 : ((ghS gh 0).e == 1) = false := by simp [he]
   have hz : locAt lv ms bd gh t 0 = 0 := by rw [locAt, HS0.out, faceV_no (fun h => he h.1)]
   have HU1 := hid (Uw.refl W1 G G)
   have HG1 := hid (show OI W1 G (.slice (some ⟨G, 0, none⟩) (n + 1) (n + 1)) (n + 1) (rowOf (n + 1) (mixf (locAt lv ms bd gh t) (fun _ => 0) (0 + 1))) from by rw [← row_skip _ hz]; exact hG0.out)
   clear hz
   go_upto_region 9 with fail
   clear hxg0 g6
   go_wp2
   go_loopw [43] (fun v43 wr => ∃ j : Nat, j ≤ q ∧ v43 = .int .i64 j ∧ Hid (Uw W1 wr G G) ∧ Hid (OI wr G (.slice (some ⟨G, 0, none⟩) (n + 1) (n + 1)) (n + 1) (rowOf (n + 1) (mixf (locAt lv ms bd gh t) (fun _ => 0) (j + 1))))) (fun v43 _ => q - (intOf v43).toNat)
   case atStart => exact ⟨0, by omega, rfl, HU1, HG1⟩
   case round =>
    obtain ⟨j, hj, rfl, hU, hGr⟩ := hrel
    have HFr := hid (hU.out.fo HFS.out HGS.out)
    by_cases hlt : j < q
    ·have t1 : decide ((j : Int) < (q : Int)) = true := decide_eq_true (by clear en2 en3; omega)
     have e1 : IntKind.i64.wrap ((j : Int) + 1) = (j : Int) + 1 := i64w (by clear en2 en3; omega) (by clear en2 en3; omega)
     have hjn : j < n ∧ j + 1 < n ∧ j + 1 < n + 1 := by clear e1 en2 en3; omega
     have i0 : (0 : Int) ≤ (j : Int) := by clear e1 en2 en3; omega
     have i1 : (j : Int) < (n : Int) := by clear e1 en2 en3; omega
     have i2 : (0 : Int) ≤ (j : Int) + 1 := by clear e1 en2 en3; omega
     have i3 : (j : Int) + 1 < (n : Int) := by clear e1 en2 en3; omega
     have i4 : (j : Int) + 1 < (n : Int) + 1 := by clear e1 en2 en3; omega
     have hkk := hid (show j + 1 ≤ q ∧ q - (j + 1) < q - j by clear e1 en2 en3; omega)
     obtain ⟨D0, hD0⟩ : ∃ D, lfS lv ms bd j = D := ⟨_, rfl⟩
     obtain ⟨D1, hD1⟩ : ∃ D, lfS lv ms bd (j + 1) = D := ⟨_, rfl⟩
     have hc0 := sdF_rd lv ms bd j n hjn.1
     have hc1 := sdF_rd lv ms bd (j + 1) n hjn.2.1
     rw [hD0] at hc0
     rw [hD1] at hc1
     have c0 := (HFr.out.cell (j := j * 3) (by clear e1 en2 en3; omega)).1
     have c1 := (HFr.out.cell (j := j * 3 + 1) (by clear e1 en2 en3; omega)).1
     have c2 := (HFr.out.cell (j := j * 3 + 2) (by clear e1 en2 en3; omega)).1
     have d0 := (HFr.out.cell (j := (j + 1) * 3) (by clear e1 en2 en3; omega)).1
     have d1 := (HFr.out.cell (j := (j + 1) * 3 + 1) (by clear e1 en2 en3; omega)).1
     have d2 := (HFr.out.cell (j := (j + 1) * 3 + 2) (by clear e1 en2 en3; omega)).1
     rw [hc0.1] at c0
     rw [hc0.2.1] at c1
     rw [hc0.2.2] at c2
     rw [hc1.1] at d0
     rw [hc1.2.1] at d1
     rw [hc1.2.2] at d2
     obtain ⟨y, hy⟩ : ∃ y, afV D0 D1 t = y := ⟨_, rfl⟩
     have HV := hid (show (if actB t (bigMax D0.l D1.l) = true then pairF D0.s D1.s D0.m D1.m D0.l D1.l else 0) = y from hy)
     have HLA := hid (show y = locAt lv ms bd gh t (j + 1) by rw [locAt, HSL.out j hjn.1, HSL.out (j + 1) hjn.2.1, hD0, hD1, faceV_af (by rw [← hD0]; rfl) (by rw [← hD1]; rfl), hy])
     have HDA := hid (show SdOk D0 by have h := HSD.out (j + 1); rw [HSL.out j hjn.1, hD0] at h; exact h)
     have HDB := hid (show SdOk D1 by have h := HSD.out (j + 1 + 1); rw [HSL.out (j + 1) hjn.2.1, hD1] at h; exact h)
     clear hD0 hD1 hc0 hc1 hy
     go_upto_region 12 with fail
     have bD := Bw.drawn (a := wr) ⟨⟨1, rfl⟩⟩
     refine start_ (n := 16) (S := fun w' => w'.cell? ⟨gs, j * 3, none⟩ = some (.int .i64 D0.l) ∧ w'.cell? ⟨gs, j * 3 + 1, none⟩ = some (.int .i64 D0.m) ∧ w'.cell? ⟨gs, j * 3 + 2, none⟩ = some (.int .i64 D0.s) ∧ w'.cell? ⟨gs, (j + 1) * 3, none⟩ = some (.int .i64 D1.l) ∧ w'.cell? ⟨gs, (j + 1) * 3 + 1, none⟩ = some (.int .i64 D1.m) ∧ w'.cell? ⟨gs, (j + 1) * 3 + 2, none⟩ = some (.int .i64 D1.s)) (ds := [15]) #[false, false, false, false, false, false, false, false, false, false, false, false, false, false, false, false] (by kernel_rfl) rfl rfl ⟨c0, c1, c2, d0, d1, d2⟩ (fun hHeld => ?_)
     refine pq_ (i := 0) (N := (some 46)) (v := ?_) (a' := ?_) rfl rfl (by kernel_rfl) (fun _ _ _ h => h) (Or.inl ⟨by rfl, ?_⟩) ?_ ?_
     rotate_left; (intro w'; go_simp; with_reducible rfl); rotate_left; (simp only [Act.put, s1_, s2_, s3_, i64_w, i32_w]; rfl)
     refine pq_ (i := 1) (N := (some 47)) (v := ?_) (a' := ?_) rfl rfl (by kernel_rfl) (fun _ _ _ h => h) (Or.inl ⟨by rfl, ?_⟩) ?_ ?_
     rotate_left; (intro w'; go_simp; with_reducible rfl); rotate_left; (simp only [Act.put, s1_, s2_, s3_, i64_w, i32_w]; rfl)
     refine pq_ (i := 2) (N := (some 48)) (v := ?_) (a' := ?_) rfl rfl (by kernel_rfl) (fun _ _ _ h => h) (Or.inl ⟨by rfl, ?_⟩) ?_ ?_
     rotate_left; (intro w'; go_simp; with_reducible rfl); rotate_left; (simp only [Act.put, s1_, s2_, s3_, i64_w, i32_w]; rfl)
     refine pq_ (i := 3) (N := (some 49)) (v := ?_) (a' := ?_) rfl rfl (by kernel_rfl) (fun _ _ _ h => h) (Or.inl ⟨by rfl, ?_⟩) ?_ ?_
     rotate_left; (intro w'; go_simp; with_reducible rfl); rotate_left; (simp only [Act.put, s1_, s2_, s3_, i64_w, i32_w]; rfl)
     refine pq_ (i := 4) (N := (some 50)) (v := ?_) (a' := ?_) rfl rfl (by kernel_rfl) (fun _ _ _ h => h) (Or.inl ⟨by rfl, ?_⟩) ?_ ?_
     rotate_left; (intro w'; go_simp; with_reducible rfl); rotate_left; (simp only [Act.put, s1_, s2_, s3_, i64_w, i32_w]; rfl)
     refine pq_ (i := 5) (N := (some 51)) (v := ?_) (a' := ?_) rfl rfl (by kernel_rfl) (fun _ _ _ h => h) (Or.inl ⟨by rfl, ?_⟩) ?_ ?_
     rotate_left; (intro w'; go_simp; with_reducible rfl); rotate_left; (simp only [Act.put, s1_, s2_, s3_, i64_w, i32_w]; rfl)
     refine tq_ (i := 6) (N := (some 52)) (v := ?_) (a' := ?_) rfl rfl (by kernel_rfl) (fun _ _ _ h => h) (Or.inl ⟨by rfl, ?_⟩) hHeld ?_ ?_
     rotate_left; (rintro w' ⟨s0, s1, s2, s3, s4, s5⟩; go_simp; with_reducible rfl); rotate_left; (simp only [Act.put, s1_, s2_, s3_, i64_w, i32_w]; rfl)
     refine pq_ (i := 7) (N := (some 53)) (v := ?_) (a' := ?_) rfl rfl (by kernel_rfl) (fun _ _ _ h => h) (Or.inl ⟨by rfl, ?_⟩) ?_ ?_
     rotate_left; (intro w'; go_simp; with_reducible rfl); rotate_left; (simp only [Act.put, s1_, s2_, s3_, i64_w, i32_w]; rfl)
     refine pq_ (i := 8) (N := (some 54)) (v := ?_) (a' := ?_) rfl rfl (by kernel_rfl) (fun _ _ _ h => h) (Or.inl ⟨by rfl, ?_⟩) ?_ ?_
     rotate_left; (intro w'; go_simp; with_reducible rfl); rotate_left; (simp only [Act.put, s1_, s2_, s3_, i64_w, i32_w]; rfl)
     refine pq_ (i := 9) (N := (some 55)) (v := ?_) (a' := ?_) rfl rfl (by kernel_rfl) (fun _ _ _ h => h) (Or.inl ⟨by rfl, ?_⟩) ?_ ?_
     rotate_left; (intro w'; go_simp; with_reducible rfl); rotate_left; (simp only [Act.put, s1_, s2_, s3_, i64_w, i32_w]; rfl)
     refine pq_ (i := 10) (N := (some 56)) (v := ?_) (a' := ?_) rfl rfl (by kernel_rfl) (fun _ _ _ h => h) (Or.inl ⟨by rfl, ?_⟩) ?_ ?_
     rotate_left; (intro w'; go_simp; with_reducible rfl); rotate_left; (simp only [Act.put, s1_, s2_, s3_, i64_w, i32_w]; rfl)
     refine tq_ (i := 11) (N := (some 57)) (v := ?_) (a' := ?_) rfl rfl (by kernel_rfl) (fun _ _ _ h => h) (Or.inl ⟨by rfl, ?_⟩) hHeld ?_ ?_
     rotate_left; (rintro w' ⟨s0, s1, s2, s3, s4, s5⟩; go_simp; with_reducible rfl); rotate_left; (simp only [Act.put, s1_, s2_, s3_, i64_w, i32_w]; rfl)
     refine pq_ (i := 12) (N := (some 58)) (v := ?_) (a' := ?_) rfl rfl (by kernel_rfl) (fun _ _ _ h => h) (Or.inl ⟨by rfl, ?_⟩) ?_ ?_
     rotate_left; (intro w'; go_simp; with_reducible rfl); rotate_left; (simp only [Act.put, s1_, s2_, s3_, i64_w, i32_w]; rfl)
     refine one_ (i := 13) (N := (some 59)) #[true, true, true, true, true, true, true, true, true, true, true, true, true, true, false, false] rfl rfl (by kernel_rfl) (by decide) (fun K hK => ?_)
     refine goes_ Try.func53 (by kernel_rfl) rfl #[.agg #[.int .i64 D0.l, .int .i64 D0.m, .int .i64 D0.s], .agg #[.int .i64 D1.l, .int .i64 D1.m, .int .i64 D1.s], .int .i64 t] (by rfl) rfl rfl (by (try simp only [List.map_toArray, List.map_cons, List.map_nil]); first | done | rfl) ?_
     refine (impl_activeFlux D0 D1 t _ HDA.out HDB.out ht).mono ?_
     rintro e wb ⟨rfl, bb⟩
     refine ⟨_, rfl, ?_⟩
     rw [HV.out]
     have bB := bD.trans bb
     refine hK.out _ _ ⟨pw_cell_below bB.out c0, pw_cell_below bB.out c1, pw_cell_below bB.out c2, pw_cell_below bB.out d0, pw_cell_below bB.out d1, pw_cell_below bB.out d2⟩ (fun hHeld => ?_)
     clear hK K; refine norm_ (a' := ?_) ?_ ?_; rotate_left; (show Act.put _ (some 59) _ = _; simp only [Act.put, s1_, s2_, s3_, i64_w, i32_w]; rfl)
     refine pq_ (i := 14) (N := (some 60)) (v := ?_) (a' := ?_) rfl rfl (by kernel_rfl) (fun _ _ _ h => h) (Or.inl ⟨by rfl, ?_⟩) ?_ ?_
     rotate_left; (intro w'; go_simp; with_reducible rfl); rotate_left; (simp only [Act.put, s1_, s2_, s3_, i64_w, i32_w]; rfl)
     clear hHeld
     obtain ⟨hx0, hf0⟩ := oi_cell (hGr.out.to bB) (j + 1) hjn.2.2
     refine last_ (i := 15) (N := none) #[true, true, true, true, true, true, true, true, true, true, true, true, true, true, true, true] rfl rfl (by kernel_rfl) (by decide) (fun K hK => ?_)
     refine skip_ (w1 := ?_) (by rfl) rfl ?_ ?_
     rotate_left
     ·go_simp
      rfl
     refine hK.out _ _ ?_
     clear hK K
     refine done_ (by kernel_rfl) ?_
     have HU2 := hid ((hU.out.bw bB).set G (j + 1) (.int .i64 y) (Or.inl rfl))
     have HG2 := hid (show OI (wb.setCell ⟨G, j + 1, none⟩ (.int .i64 y)) G (.slice (some ⟨G, 0, none⟩) (n + 1) (n + 1)) (n + 1) (rowOf (n + 1) (mixf (locAt lv ms bd gh t) (fun _ => 0) (j + 1 + 1))) from by have h := oi_store (hGr.out.to bB) (j + 1) y; rwa [mixf_step _ _ _ _ _ HLA.out] at h)
     clear c0 c1 c2 d0 d1 d2 hx0 hf0 hU hGr HFr
     generalize (wb.setCell ⟨G, j + 1, none⟩ (.int .i64 y)) = W6 at *
     go_wp2
     go_roundw
     case rel => exact ⟨j + 1, hkk.out.1, by go_num, HU2, HG2⟩
     case measure => simp [intOf]; clear e1 en2 en3; omega
    ·obtain rfl : q = j := by clear en2 en3; omega
     have t1 : decide ((q : Int) < (q : Int)) = false := decide_eq_false (by clear en2 en3; omega)
     have HBr := hid (hU.out.to HB.out (by clear en2 en3; omega) (by clear en2 en3; omega))
     have hk6 := hU.out.blk HK1.out (by clear en2 en3; omega) (by clear en2 en3; omega)
     have g6 := (blk_cell hk6 6).trans (show _ = some (Value.slice (some ag) 8 cg) from rfl)
     obtain ⟨_, eg, xg4⟩ := (rg.to HBr.out).nat 4 (by omega)
     obtain rfl := Option.some.inj eg
     rw [add_pos _ _ (by omega)] at xg4
     have hxg4 : wr.cell? ⟨ag.block, ag.off + 4, none⟩ = some (.int .i64 (ghS gh 4).e) := xg4
     clear xg4 eg hk6
     have hqn := HQN.out
     by_cases he4 : (ghS gh 4).e = 1
     ·have u2 : ((ghS gh 4).e == 1) = true := by simp [he4]
      obtain ⟨D0, hD⟩ : ∃ D, lfS lv ms bd q = D := ⟨_, rfl⟩
      have hc := sdF_rd lv ms bd q n hqb.1
      rw [hD] at hc
      have c0 := (HFr.out.cell (j := q * 3) (by clear en2 en3; omega)).1
      have c1 := (HFr.out.cell (j := q * 3 + 1) (by clear en2 en3; omega)).1
      have c2 := (HFr.out.cell (j := q * 3 + 2) (by clear en2 en3; omega)).1
      rw [hc.1] at c0
      rw [hc.2.1] at c1
      rw [hc.2.2] at c2
      obtain ⟨y, hy⟩ : ∃ y, afV D0 (ghS gh 4) t = y := ⟨_, rfl⟩
      have HV := hid (show (if actB t (bigMax D0.l (ghS gh 4).l) = true then pairF D0.s (ghS gh 4).s D0.m (ghS gh 4).m D0.l (ghS gh 4).l else 0) = y from hy)
      have HLA := hid (show y = locAt lv ms bd gh t n by
       have h1 := HSN.out
       have h2 := HSL.out q hqb.1
       rw [← hqn] at h2
       rw [locAt, h1, h2, hD, faceV_af (by rw [← hD]; rfl) he4, hy])
      have HDA := hid (show SdOk D0 by have h := HSD.out (q + 1); rw [HSL.out q hqb.1, hD] at h; exact h)
      have HDB := hid (show SdOk (ghS gh 4) by have h := HSD.out (n + 1); rw [HSN.out] at h; exact h)
      have s5 := HHV.out.2
      have rg2 := (rg.to HBr.out).sub 4 4 (by omega) (by omega)
      have i0 : (0 : Int) ≤ (q : Int) := by clear en2 en3; omega
      have i1 : (q : Int) < (n : Int) := by clear en2 en3; omega
      have i2 : (0 : Int) ≤ (n : Int) := by clear en2 en3; omega
      have i3 : (n : Int) < (n : Int) + 1 := by clear en2 en3; omega
      have HG5 := hid (show OI wr G (.slice (some ⟨G, 0, none⟩) (n + 1) (n + 1)) (n + 1) (rowOf (n + 1) (mixf (locAt lv ms bd gh t) (fun _ => 0) n)) by rw [← hqn] at hGr; exact hGr.out)
      clear hD hc hy hqn hGr
      go_upto_region 15 with fail
      have bD := Bw.drawn (a := wr) ⟨⟨1, rfl⟩⟩
      refine start_ (n := 16) (S := fun w' => w'.cell? ⟨w.heap.size, 6, none⟩ = some (.slice (some ag) 8 cg) ∧ w'.cell? ⟨gs, q * 3, none⟩ = some (.int .i64 D0.l) ∧ w'.cell? ⟨gs, q * 3 + 1, none⟩ = some (.int .i64 D0.m) ∧ w'.cell? ⟨gs, q * 3 + 2, none⟩ = some (.int .i64 D0.s)) (ds := [15]) #[false, false, false, false, false, false, false, false, false, false, false, false, false, false, false, false] (by kernel_rfl) rfl rfl ⟨g6, c0, c1, c2⟩ (fun hHeld => ?_)
      refine pq_ (i := 0) (N := (some 67)) (v := ?_) (a' := ?_) rfl rfl (by kernel_rfl) (fun _ _ _ h => h) (Or.inl ⟨by rfl, ?_⟩) ?_ ?_
      rotate_left; (intro w'; go_simp; with_reducible rfl); rotate_left; (simp only [Act.put, s1_, s2_, s3_, i64_w, i32_w]; rfl)
      refine pq_ (i := 1) (N := (some 68)) (v := ?_) (a' := ?_) rfl rfl (by kernel_rfl) (fun _ _ _ h => h) (Or.inl ⟨by rfl, ?_⟩) ?_ ?_
      rotate_left; (intro w'; go_simp; with_reducible rfl); rotate_left; (simp only [Act.put, s1_, s2_, s3_, i64_w, i32_w]; rfl)
      refine pq_ (i := 2) (N := (some 69)) (v := ?_) (a' := ?_) rfl rfl (by kernel_rfl) (fun _ _ _ h => h) (Or.inl ⟨by rfl, ?_⟩) ?_ ?_
      rotate_left; (intro w'; go_simp; with_reducible rfl); rotate_left; (simp only [Act.put, s1_, s2_, s3_, i64_w, i32_w]; rfl)
      refine pq_ (i := 3) (N := (some 70)) (v := ?_) (a' := ?_) rfl rfl (by kernel_rfl) (fun _ _ _ h => h) (Or.inl ⟨by rfl, ?_⟩) ?_ ?_
      rotate_left; (intro w'; go_simp; with_reducible rfl); rotate_left; (simp only [Act.put, s1_, s2_, s3_, i64_w, i32_w]; rfl)
      refine pq_ (i := 4) (N := (some 71)) (v := ?_) (a' := ?_) rfl rfl (by kernel_rfl) (fun _ _ _ h => h) (Or.inl ⟨by rfl, ?_⟩) ?_ ?_
      rotate_left; (intro w'; go_simp; with_reducible rfl); rotate_left; (simp only [Act.put, s1_, s2_, s3_, i64_w, i32_w]; rfl)
      refine pq_ (i := 5) (N := (some 72)) (v := ?_) (a' := ?_) rfl rfl (by kernel_rfl) (fun _ _ _ h => h) (Or.inl ⟨by rfl, ?_⟩) ?_ ?_
      rotate_left; (intro w'; go_simp; with_reducible rfl); rotate_left; (simp only [Act.put, s1_, s2_, s3_, i64_w, i32_w]; rfl)
      refine tq_ (i := 6) (N := (some 73)) (v := ?_) (a' := ?_) rfl rfl (by kernel_rfl) (fun _ _ _ h => h) (Or.inl ⟨by rfl, ?_⟩) hHeld ?_ ?_
      rotate_left; (rintro w' ⟨s0, s1, s2, s3⟩; go_simp; with_reducible rfl); rotate_left; (simp only [Act.put, s1_, s2_, s3_, i64_w, i32_w]; rfl)
      refine pq_ (i := 7) (N := (some 74)) (v := ?_) (a' := ?_) rfl rfl (by kernel_rfl) (fun _ _ _ h => h) (Or.inl ⟨by rfl, ?_⟩) ?_ ?_
      rotate_left; (intro w'; go_simp; with_reducible rfl); rotate_left; (simp only [Act.put, s1_, s2_, s3_, i64_w, i32_w]; rfl)
      refine pq_ (i := 8) (N := (some 75)) (v := ?_) (a' := ?_) rfl rfl (by kernel_rfl) (fun _ _ _ h => h) (Or.inl ⟨by rfl, ?_⟩) ?_ ?_
      rotate_left; (intro w'; go_simp; with_reducible rfl); rotate_left; (simp only [Act.put, s1_, s2_, s3_, i64_w, i32_w]; rfl)
      refine tq_ (i := 9) (N := (some 76)) (v := ?_) (a' := ?_) rfl rfl (by kernel_rfl) (fun _ _ _ h => h) (Or.inl ⟨by rfl, ?_⟩) hHeld ?_ ?_
      rotate_left; (rintro w' ⟨s0, s1, s2, s3⟩; go_simp; with_reducible rfl); rotate_left; (simp only [Act.put, s1_, s2_, s3_, i64_w, i32_w]; rfl)
      refine pq_ (i := 10) (N := (some 77)) (v := ?_) (a' := ?_) rfl rfl (by kernel_rfl) (fun _ _ _ h => h) (Or.inl ⟨by rfl, ?_⟩) ?_ ?_
      rotate_left; (intro w'; go_simp; with_reducible rfl); rotate_left; (simp only [Act.put, s1_, s2_, s3_, i64_w, i32_w]; rfl)
      refine pq_ (i := 12) (N := (some 79)) (v := ?_) (a' := ?_) rfl rfl (by kernel_rfl) (fun _ _ _ h => h) (Or.inl ⟨by rfl, ?_⟩) ?_ ?_
      rotate_left; (intro w'; go_simp; with_reducible rfl); rotate_left; (simp only [Act.put, s1_, s2_, s3_, i64_w, i32_w]; rfl)
      refine one_ (i := 11) (N := (some 78)) #[true, true, true, true, true, true, true, true, true, true, true, true, true, false, false, false] rfl rfl (by kernel_rfl) (by decide) (fun K hK => ?_)
      refine goesV_ (t := 74) Try.func52 (by kernel_rfl) rfl #[.slice (some (ag.add 4)) 4 (cg - 4)] (by rfl) rfl rfl rfl (by (try simp only [List.map_toArray, List.map_cons, List.map_nil]); first | done | rfl) ?_
      refine (ghostC _ _ _ _ (rg2.to bD)).mono ?_
      rintro e wa ⟨rfl, ba⟩
      refine ⟨_, rfl, ?_⟩
      rw [sub_rd gh 4 1 (by decide), sub_rd gh 4 2 (by decide), sub_rd gh 4 3 (by decide)]
      have bA := bD.trans ba
      refine hK.out _ _ ⟨pw_cell_below bA.out g6, pw_cell_below bA.out c0, pw_cell_below bA.out c1, pw_cell_below bA.out c2⟩ (fun hHeld => ?_)
      clear hK K; refine norm_ (a' := ?_) ?_ ?_; rotate_left; (show Act.put _ (some 78) _ = _; simp only [Act.put, s1_, s2_, s3_, i64_w, i32_w]; rfl)
      refine one_ (i := 13) (N := (some 80)) #[true, true, true, true, true, true, true, true, true, true, true, true, true, true, false, false] rfl rfl (by kernel_rfl) (by decide) (fun K hK => ?_)
      refine goes_ Try.func53 (by kernel_rfl) rfl #[.agg #[.int .i64 D0.l, .int .i64 D0.m, .int .i64 D0.s], .agg #[.int .i64 (ghS gh 4).l, .int .i64 (ghS gh 4).m, .int .i64 (ghS gh 4).s], .int .i64 t] (by rfl) rfl rfl (by (try simp only [List.map_toArray, List.map_cons, List.map_nil]); first | done | rfl) ?_
      refine (impl_activeFlux D0 (ghS gh 4) t _ HDA.out HDB.out ht).mono ?_
      rintro e wb ⟨rfl, bb⟩
      refine ⟨_, rfl, ?_⟩
      rw [HV.out]
      have bB := bA.trans bb
      refine hK.out _ _ ⟨pw_cell_below bB.out g6, pw_cell_below bB.out c0, pw_cell_below bB.out c1, pw_cell_below bB.out c2⟩ (fun hHeld => ?_)
      clear hK K; refine norm_ (a' := ?_) ?_ ?_; rotate_left; (show Act.put _ (some 80) _ = _; simp only [Act.put, s1_, s2_, s3_, i64_w, i32_w]; rfl)
      refine pq_ (i := 14) (N := (some 81)) (v := ?_) (a' := ?_) rfl rfl (by kernel_rfl) (fun _ _ _ h => h) (Or.inl ⟨by rfl, ?_⟩) ?_ ?_
      rotate_left; (intro w'; go_simp; with_reducible rfl); rotate_left; (simp only [Act.put, s1_, s2_, s3_, i64_w, i32_w]; rfl)
      clear hHeld
      obtain ⟨hx0, hf0⟩ := oi_cell (HG5.out.to bB) n (by clear en2 en3; omega)
      refine last_ (i := 15) (N := none) #[true, true, true, true, true, true, true, true, true, true, true, true, true, true, true, true] rfl rfl (by kernel_rfl) (by decide) (fun K hK => ?_)
      refine skip_ (w1 := ?_) (by rfl) rfl ?_ ?_
      rotate_left
      ·go_simp
       rfl
      refine hK.out _ _ ?_
      clear hK K
      refine done_ (by kernel_rfl) ?_
      have HB9 := hid ((hU.out.bw bB).set G n (.int .i64 y) (Or.inl rfl))
      have HG9 := hid (show OI (wb.setCell ⟨G, n, none⟩ (.int .i64 y)) G (.slice (some ⟨G, 0, none⟩) (n + 1) (n + 1)) (n + 1) (rowOf (n + 1) (locAt lv ms bd gh t)) from by
       have h := oi_store (HG5.out.to bB) n y
       rw [mixf_step _ _ _ _ _ HLA.out] at h
       rwa [rowOf_congr (fun i hi => mixf_all (locAt lv ms bd gh t) (fun _ => 0) hi)] at h)
      have HBF := hid (HB9.out.to HB.out (by clear en2 en3; omega) (by clear en2 en3; omega))
      clear c0 c1 c2 hx0 hf0 hU HG5
      generalize (wb.setCell ⟨G, n, none⟩ (.int .i64 y)) = W7 at *
      go_wp2
      go_ret
      exact ⟨_, rfl, by rw [HL.out, rowOf_len]; exact OI.base HG9.out (Nat.le_of_lt hGw), HBF.out⟩
     ·have u2 : ((ghS gh 4).e == 1) = false := by simp [he4]
      have hz : locAt lv ms bd gh t n = 0 := by
       rw [locAt, HSN.out, faceV_no (fun h => he4 h.2)]
      have HG9 := hid (show OI wr G (.slice (some ⟨G, 0, none⟩) (n + 1) (n + 1)) (n + 1) (rowOf (n + 1) (locAt lv ms bd gh t)) by
       rw [← hqn, row_skip _ hz, rowOf_congr (fun i hi => mixf_all (locAt lv ms bd gh t) (fun _ => 0) hi)] at hGr
       exact hGr.out)
      clear hz hGr hqn
      go_wp2
      go_ret
      exact ⟨_, rfl, by rw [HL.out, rowOf_len]; exact OI.base HG9.out (Nat.le_of_lt hGw), HBr.out⟩
end Go.Proofs.Ytkhjkcefkampkaa.U
