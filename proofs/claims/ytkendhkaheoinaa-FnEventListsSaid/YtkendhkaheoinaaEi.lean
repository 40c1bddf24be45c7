
/- DropLevel. -/
import Derived.Test.YtkendhkaheoinaaEh
set_option linter.unusedVariables false
set_option linter.unusedSimpArgs false
namespace Go.Proofs.Ytkendhkaheoinaa.U
open Go.RowKit Go.Lib Go.Proofs.YtkendhkaheoinaaW.PrintWords
open Go.Proofs.YtkendhkaheoinaaW.PrintLast Go.Proofs.YtkendhkaheoinaaW.PrintMore
structure PredE (g : Nat) (lb : Array Value) (Q : Ev → Prop) (p : Ev → Bool) (w : World) : Prop where
 mk :: (out : ∀ W x, Q x → Bw w W → Calls Try.prog g (#[.agg #[.int .i64 x.q, .int .i64 x.v]] ++ lb) W fun e W' => e = .returned (.bool (p x)) ∧ Bw W W')
theorem bw_setCells {w0 : World} {g : Nat} (hg : w0.heap.size ≤ g) : ∀ (vs : List Value) (o : Nat) {w : World}, Bw w0 w → Bw w0 (w.setCells g o vs)
 | [], _, _, h => h
 | v :: r, o, w, h => bw_setCells hg r (o + 1) (h.then_wi (Wi.set w g o v) hg)
theorem zeroCells_len (z : Array Value) (n : Nat) : (Builtin.zeroCells z n).toList.length = n * z.size := by simp [Builtin.zeroCells]
theorem zeroCells_one {z : Array Value} (h : ∀ i, i < z.size → (z[i]!).oneCell' = true) (n : Nat) : ∀ v ∈ (Builtin.zeroCells z n).toList, v.oneCell' = true := by
 intro v hv
 simp only [Builtin.zeroCells, Array.toList_map, List.mem_map] at hv
 obtain ⟨i, hi, rfl⟩ := hv
 have : 0 < z.size := by
  rcases Nat.eq_zero_or_pos z.size with h0 | h0
  ·simp [h0] at hi
  ·exact h0
 exact h _ (Nat.mod_lt _ this)
theorem run_clear_row (w : World) (t e ty : TypeId) (z : Value) (k : Nat) (ht : Try.prog.underlying t = some (.slice e)) (hv : ∀ w, (zeroValue e).run Try.prog w = .ok z w) (hk : z.cells.size = k) (h1 : ∀ i, i < z.cells.size → (z.cells[i]!).oneCell' = true) (b o n c : Nat) (hn : 0 < n)
  (hc : ∀ j, j < n * k → (w.cell? ⟨b, o + j, none⟩).isSome = true) (hf : ∀ j, j < n * k → w.frozen? ⟨b, o + j, none⟩ = false) :
  (Builtin.clear_ #[t] ty #[.slice (some ⟨b, o, none⟩) n c]).run Try.prog w = .ok (.tuple #[]) (w.setCells b o (Builtin.zeroCells z.cells n).toList) := by
 have hl := zeroCells_len z.cells n
 rw [hk] at hl
 have hst := run_storeCells_cells (P := Try.prog) b o (Builtin.zeroCells z.cells n).toList 0 w (by rw [hl]; simpa using hc) (by rw [hl]; simpa using hf) (zeroCells_one h1 n)
 simp only [Nat.add_zero] at hst
 obtain ⟨m, rfl⟩ : ∃ m, n = m + 1 := ⟨n - 1, by omega⟩
 simp [Builtin.clear_, run_underlying ht, hv, hst]
def kept (p : Ev → Bool) (L : List Ev) (j : Nat) : Nat := (L.take j).countP fun x => !p x
theorem kept_succ {p : Ev → Bool} {L : List Ev} {j : Nat} (h : j < L.length) : kept p L (j + 1) = kept p L j + (if p (ge L j) = true then 0 else 1) := by
 rw [kept, List.take_add_one, List.getElem?_eq_getElem h, Option.toList_some, List.countP_append, ← kept, ge_at h]
 cases hp : p L[j] <;> simp [List.countP_cons, hp]
theorem kept_all {p : Ev → Bool} {L : List Ev} : ∀ {k : Nat}, k ≤ L.length → (∀ j, j < k → p (ge L j) = false) → kept p L k = k
 | 0, _, _ => rfl
 | k + 1, hk, h => by
  rw [kept_succ (by omega), kept_all (by omega) (fun j hj => h j (by omega)), h k (by omega)]
  rfl
set_option maxHeartbeats 4000000 in
theorem IndexFuncE (A : Option Addr) (n c : Nat) (L : List Ev) (g : Nat) (lb : Array Value) (Q : Ev → Prop) (p : Ev → Bool) (w0 w : World) (b0 : Bw w0 w) (r : EvR w A n L) (hq : ∀ j, j < n → Q (ge L j)) (hp : PredE g lb Q p w0)
  (eg : ∀ args w, (callFunc g args).run Try.prog w = .ok (.enter g args) w) :
  Calls Try.prog 73 #[.slice A n c, .func (.func g) #[] lb] w fun e w' => (∃ i : Int, e = .returned (.int .i64 i) ∧ ((i = -1 ∧ ∀ j, j < n → p (ge L j) = false) ∨ ∃ k : Nat, k < n ∧ i = (k : Int) ∧ p (ge L k) = true ∧ ∀ j, j < k → p (ge L j) = false)) ∧ Bw w w' := by
 have hm := r.max
 have HQ := hid hq
 clear hq
 go_enter Try.func73, Try.ntmps73
 go_wp2
 go_loopw [8] (fun i wr => ∃ k : Nat, k ≤ n ∧ i = .int .i64 k ∧ Hid (∀ j, j < k → p (ge L j) = false) ∧ Hid (Bw w wr)) (fun i _ => n - (intOf i).toNat)
 case atStart => exact ⟨0, by omega, rfl, hid (fun j hj => by omega), hid (Bw.refl _)⟩
 case round =>
  obtain ⟨k, hk, rfl, hE, hB⟩ := hrel
  by_cases hlt : k < n
  ·have t1 : decide ((k : Int) < (n : Int)) = true := decide_eq_true (by omega)
   have e1 : IntKind.i64.wrap ((k : Int) + 1) = (k : Int) + 1 := i64w (by omega) (by omega)
   have hkk := hid (show k + 1 ≤ n ∧ n - (k + 1) < n - k by clear e1; omega)
   obtain ⟨ad, rfl, x1, x2⟩ := (r.to hB.out).at k hlt
   have hx := HQ.out k hlt
   obtain ⟨q, f, hge⟩ : ∃ q f, ge L k = ⟨q, f⟩ := ⟨_, _, rfl⟩
   rw [hge] at x1 x2 hx
   have HX := hid hx
   have HGE := hid hge
   clear hx hge
   have i0 : (0 : Int) ≤ (k : Int) := by clear e1; omega
   have i1 : (k : Int) < (n : Int) := by clear e1; omega
   go_wp2_with fail
   refine (hp.out _ ⟨q, f⟩ HX.out (b0.trans hB.out)).mono ?_
   rintro e W' ⟨rfl, d⟩
   cases hpx : p ⟨q, f⟩ with
   | true =>
    have HP := hid hpx; clear hpx x1 x2
    go_wp2
    go_ret
    exact ⟨⟨_, rfl, Or.inr ⟨k, hlt, rfl, by rw [HGE.out]; exact HP.out, hE.out⟩⟩, hB.out.trans d⟩
   | false =>
    have HP := hid hpx; clear hpx x1 x2
    go_wp2
    go_roundw
    case rel => exact ⟨k + 1, hkk.out.1, by go_num, hid (fun j hj => by
     by_cases e : j = k
     ·rw [e, HGE.out]; exact HP.out
     ·exact hE.out j (by omega)), hid (hB.out.trans d)⟩
    case measure => simp [intOf]; clear e1; omega
  ·obtain rfl : k = n := by omega
   have t1 : decide ((k : Int) < (k : Int)) = false := decide_eq_false (by omega)
   go_wp2
   go_ret
   exact ⟨⟨_, rfl, Or.inl ⟨rfl, hE.out⟩⟩, hB.out⟩
set_option maxHeartbeats 8000000 in
set_option maxRecDepth 100000 in
theorem DeleteFuncE (A : Option Addr) (n c : Nat) (L : List Ev) (g : Nat) (lb : Array Value) (Q : Ev → Prop) (p : Ev → Bool) (w0 w : World) (b0 : Bw w0 w) (o : EvO w w0.heap.size (.slice A n c) n L) (hq : ∀ j, j < n → Q (ge L j)) (hp : PredE g lb Q p w0)
  (eg : ∀ args w, (callFunc g args).run Try.prog w = .ok (.enter g args) w) (hn : n ≤ 1000000) :
  Calls Try.prog 39 #[.slice A n c, .func (.func g) #[] lb] w fun e w' => ∃ A' c', e = .returned (.slice A' (kept p L n) c') ∧ Bw w0 w' := by
 obtain ⟨_, _, e0, hcn, re⟩ := o.reads
 simp only [Value.slice.injEq, true_and] at e0
 obtain ⟨rfl, rfl⟩ := e0
 have r : EvR w A n L := ⟨re⟩
 have HLL := hid r.len
 have HQ := hid hq
 have HO := hid o
 clear hq o re
 go_enter Try.func39, Try.ntmps39
 go_wp2_with fail
 refine (IndexFuncE A n c L g lb Q p w0 _ b0 r HQ.out hp eg).mono ?_
 rintro e w1 ⟨⟨i, rfl, hi⟩, b1⟩
 rcases hi with ⟨rfl, hall⟩ | ⟨k, hk, rfl, hpk, hall⟩
 ·have HK := hid (show kept p L n = n from kept_all (by rw [HLL.out]; exact Nat.le_refl _) hall)
  have hB := b0.trans b1
  clear hall
  go_wp2
  go_ret
  exact ⟨A, c, by rw [HK.out]; rfl, hB⟩
 ·have t1 : ((k : Int) == -1) = false := beq_eq_false_iff_ne.2 (by omega)
  have e1 : IntKind.i64.wrap ((k : Int) + 1) = (k : Int) + 1 := i64w (by omega) (by omega)
  have HK := hid (show kept p L (k + 1) = k by
   rw [kept_succ (by rw [HLL.out]; exact hk), kept_all (by rw [HLL.out]; omega) hall, hpk]; rfl)
  obtain ⟨B, eA, hBb, hBs, _⟩ := (FO.form HO.out (by clear e1; omega) : ∃ g, A = some ⟨g, 0, none⟩ ∧ _)
  obtain rfl := eA
  have HO1 := hid (HO.out.to b1)
  have HB1 := hid (b0.trans b1)
  have hLL := HLL.out
  have HF0 := hid (show ∀ t, k + 1 ≤ t → t < n → rd (evF L) ((t * 2 : Nat) : Int) = (ge L t).q ∧ rd (evF L) ((t * 2 + 1 : Nat) : Int) = (ge L t).v from fun t _ ht => evF_rd L t (by rw [hLL]; exact ht))
  clear hall hpk HO b1 r hLL
  go_wp2
  go_loopw [5, 6] (fun v5 v6 wr => ∃ (j : Nat) (F : List Int), k + 1 ≤ j ∧ j ≤ n ∧ v6 = .int .i64 j ∧ v5 = .int .i64 (kept p L j : Nat) ∧ Hid (kept p L j < j) ∧ Hid (FO wr w0.heap.size 40 2 (.slice (some ⟨B, 0, none⟩) n c) n F) ∧ Hid (∀ t, j ≤ t → t < n → rd F ((t * 2 : Nat) : Int) = (ge L t).q ∧ rd F ((t * 2 + 1 : Nat) : Int) = (ge L t).v) ∧ Hid (Bw w0 wr)) (fun _ v6 _ => n - (intOf v6).toNat)
  case atStart => exact ⟨k + 1, evF L, by clear e1; omega, by clear e1; omega, by go_num, by rw [HK.out], hid (by rw [HK.out]; omega), HO1, HF0, HB1⟩
  case round =>
   obtain ⟨j, F, hj1, hj, rfl, rfl, hKJ, hO, hF, hB⟩ := hrel
   clear e1
   obtain ⟨d, hd⟩ : ∃ d, kept p L j = d := ⟨_, rfl⟩
   have hdj := hKJ.out
   rw [hd] at hdj ⊢
   have e2 : IntKind.i64.wrap ((d : Int) + 1) = (d : Int) + 1 := i64w (by omega) (by omega)
   by_cases hlt : j < n
   ·have t2 : decide ((j : Int) < (n : Int)) = true := decide_eq_true (by clear e2; omega)
    have e1 : IntKind.i64.wrap ((j : Int) + 1) = (j : Int) + 1 := i64w (by clear e2; omega) (by clear e2; omega)
    have hkk := hid (show k + 1 ≤ j + 1 ∧ j + 1 ≤ n ∧ n - (j + 1) < n - j ∧ d < j by clear e1 e2; omega)
    have i0 : (0 : Int) ≤ (j : Int) := by clear e1 e2; omega
    have i1 : (j : Int) < (n : Int) := by clear e1 e2; omega
    have i2 : (0 : Int) ≤ (d : Int) := by clear e1 e2; omega
    have i3 : (d : Int) < (n : Int) := by clear e1 e2; omega
    have hx := HQ.out j hlt
    obtain ⟨q, f, hge⟩ : ∃ q f, ge L j = ⟨q, f⟩ := ⟨_, _, rfl⟩
    have hfj := hF.out j (Nat.le_refl _) hlt
    rw [hge] at hx hfj
    have x1 := (FO.cell hO.out (show j * 2 < n * 2 by clear e1 e2; omega)).1
    have x2 := (FO.cell hO.out (show j * 2 + 1 < n * 2 by clear e1 e2; omega)).1
    rw [hfj.1] at x1
    rw [hfj.2] at x2
    simp only at x1 x2
    have HX := hid hx
    have HKS := hid (kept_succ (p := p) (L := L) (j := j) (by rw [HLL.out]; exact hlt))
    have HD := hid hd
    have HGE := hid hge
    have hbx := Bw.box1 wr (.cells #[.int .i64 q, .int .i64 f] 40)
    have y0 := box_cell (Bw.refl (wr.alloc (.cells #[.int .i64 q, .int .i64 f] 40))) 0
    have y1 := box_cell (Bw.refl (wr.alloc (.cells #[.int .i64 q, .int .i64 f] 40))) 1
    simp only [List.getElem?_toArray, List.getElem?_cons_zero, List.getElem?_cons_succ] at y0 y1
    have hO1 := hid (hO.out.to hbx)
    have hB1 := hid (hB.out.trans hbx)
    clear hx hfj hge hd hbx hO hB
    go_wp2_with fail
    refine (hp.out _ ⟨q, f⟩ HX.out hB1.out).mono ?_
    rintro e W2 ⟨rfl, d1⟩
    replace y0 := pw_cell_below d1.out y0
    replace y1 := pw_cell_below d1.out y1
    have hO2 := hO1.out.to d1
    have hB2 := hB1.out.trans d1
    clear x1 x2 hO1 hB1 d1
    cases hpx : p ⟨q, f⟩ with
    | true =>
     have HN := hid (show kept p L (j + 1) = d by rw [HKS.out, HD.out, HGE.out, hpx]; rfl)
     have HO2 := hid hO2
     have HB2 := hid hB2
     clear hpx hO2 hB2 y0 y1 HKS HD HGE
     go_wp2
     go_roundw
     case rel => exact ⟨j + 1, F, hkk.out.1, hkk.out.2.1, by go_num, by rw [HN.out], hid (by rw [HN.out]; have := hkk.out.2.2.2; omega), HO2, hid (fun t h1 h2 => hF.out t (by omega) h2), HB2⟩
     case measure => simp [intOf]; clear e1 e2; omega
    | false =>
     have HN := hid (show kept p L (j + 1) = d + 1 by rw [HKS.out, HD.out, HGE.out, hpx]; rfl)
     have hFl := FO.len hO2
     obtain ⟨c0, f0⟩ := FO.cell hO2 (show d * 2 < n * 2 by clear e1 e2; omega)
     obtain ⟨c1, f1⟩ := FO.cell hO2 (show d * 2 + 1 < n * 2 by clear e1 e2; omega)
     have HO2 := hid (FO.set (FO.set hO2 (show d * 2 < n * 2 by clear e1 e2; omega) q) (show d * 2 + 1 < n * 2 by clear e1 e2; omega) f)
     have HB2 := hid ((hB2.then_wi (Wi.set _ B (d * 2) (.int .i64 q)) hBb).then_wi (Wi.set _ B (d * 2 + 1) (.int .i64 f)) hBb)
     have HF2 := hid (show ∀ t, j + 1 ≤ t → t < n → rd ((F.set (d * 2) q).set (d * 2 + 1) f) ((t * 2 : Nat) : Int) = (ge L t).q ∧ rd ((F.set (d * 2) q).set (d * 2 + 1) f) ((t * 2 + 1 : Nat) : Int) = (ge L t).v from fun t h1 h2 => by
      have h3 := hF.out t (by omega) h2
      have h4 := hkk.out.2.2.2
      clear e1 e2
      rw [rd_nat, rd_nat, List.getD_eq_getElem?_getD, List.getD_eq_getElem?_getD, List.getElem?_set_ne (by omega), List.getElem?_set_ne (by omega), List.getElem?_set_ne (by omega), List.getElem?_set_ne (by omega), ← List.getD_eq_getElem?_getD, ← List.getD_eq_getElem?_getD, ← rd_nat, ← rd_nat]
      exact h3)
     clear hpx hO2 hB2 HKS HD HGE hFl
     go_wp2
     go_roundw
     case rel => exact ⟨j + 1, _, hkk.out.1, hkk.out.2.1, by go_num, by rw [HN.out]; go_num, hid (by rw [HN.out]; have := hkk.out.2.2.2; omega), HO2, HF2, HB2⟩
     case measure => simp [intOf]; clear e1 e2; omega
   ·obtain rfl : n = j := by clear e2; omega
    have t2 : decide ((n : Int) < (n : Int)) = false := decide_eq_false (by clear e2; omega)
    have i2 : (0 : Int) ≤ (d : Int) := by clear e2; omega
    have i3 : (d : Int) ≤ (n : Int) := by clear e2; omega
    have hcl : ∀ ty, (Builtin.clear_ #[31] ty #[.slice (some ⟨B, d * 2, none⟩) (n - d) (c - d)]).run Try.prog wr = .ok (.tuple #[]) (wr.setCells B (d * 2) (Builtin.zeroCells #[.int .i64 0, .int .i64 0] (n - d)).toList) := fun ty => by
     refine run_clear_row wr 31 40 ty (.agg #[.int .i64 0, .int .i64 0]) 2 Try.underlying31 (fun w => by rfl) rfl (by decide) B (d * 2) (n - d) (c - d) (by clear e2; omega) (fun t ht => ?_) (fun t ht => ?_)
     ·rw [(FO.cell hO.out (show d * 2 + t < n * 2 by clear e2; omega)).1]; rfl
     ·exact (FO.cell hO.out (show d * 2 + t < n * 2 by clear e2; omega)).2
    have hBF := hid (bw_setCells hBb (Builtin.zeroCells #[.int .i64 0, .int .i64 0] (n - d)).toList (d * 2) hB.out)
    have HD := hid hd
    clear hd hO
    obtain ⟨i0, hi, hz0, hz1, hz2⟩ := info_parts info_ev
    have hs1 := cut_from (P := Try.prog) 31 40 .i64 Try.underlying31 hi 2 hz1 (some ⟨B, 0, none⟩) n c (d : Int) (by clear e2; omega) (by clear e2; omega)
    have hs2 := cut_to (P := Try.prog) 31 40 .i64 Try.underlying31 hi (some ⟨B, 0, none⟩) n c (d : Int) (by clear e2; omega) (by clear e2; omega) hcn
    have hne : ¬ c = d := by clear e2; omega
    have had : (Addr.add ⟨B, 0, none⟩ (d * 2)) = ⟨B, d * 2, none⟩ := by rw [add_plain]
    simp only [Int.toNat_natCast, if_neg hne, Option.map_some, had] at hs1 hs2
    clear e2
    go_wp2
    go_ret
    exact ⟨_, _, by rw [HD.out]; rfl, hBF.out⟩
set_option maxHeartbeats 4000000 in
set_option maxRecDepth 100000 in
theorem dropC (ro lev : Int) (A : Option Addr) (n c : Nat) (l : List Ce) (i BM BL : Nat) (q : Int) (w : World) (r : IdR w A n l) (hok : meshOk ro l = true) (hn : n ≤ 128) (hi : i + 1 < n)
  (k0 : w.cell? ⟨BM, 0, none⟩ = some (.int .i64 ro)) (k1 : w.cell? ⟨BM, 1, none⟩ = some (.slice A n c)) (k2 : w.cell? ⟨BL, 0, none⟩ = some (.int .i64 lev)) :
  Calls Try.prog 41 #[.agg #[.int .i64 q, .int .i64 (i : Int)], .pointer (some ⟨BM, 0, none⟩), .pointer (some ⟨BL, 0, none⟩)] w fun e w' => e = .returned (.bool (faceL l i == lev)) ∧ Bw w w' := by
 have b0 := Bw.box1 w (.cells #[.int .i64 q, .int .i64 (i : Int)] 40)
 have g2 := box_cell (Bw.refl (w.alloc (.cells #[.int .i64 q, .int .i64 (i : Int)] 40))) 1
 simp only [List.getElem?_toArray, List.getElem?_cons_zero, List.getElem?_cons_succ] at g2
 have g0 := pw_cell_below b0.out k0
 have g1 := pw_cell_below b0.out k1
 have g3 := pw_cell_below b0.out k2
 have hB := hid b0
 clear k0 k1 k2 b0
 go_enter Try.func41, Try.ntmps41
 go_upto_region 1 with fail
 generalize (w.alloc (.cells #[.int .i64 q, .int .i64 (i : Int)] 40)) = W1 at *
 have bD := Bw.drawn (a := W1) ⟨⟨1, rfl⟩⟩
 refine start_ (n := 7) (S := fun w' => w'.cell? ⟨BM, 0, none⟩ = some (.int .i64 ro) ∧ w'.cell? ⟨BM, 1, none⟩ = some (.slice A n c) ∧ w'.cell? ⟨w.heap.size, 1, none⟩ = some (.int .i64 (i : Int)) ∧ w'.cell? ⟨BL, 0, none⟩ = some (.int .i64 lev)) (ds := [6]) #[false, false, false, false, false, false, false] (by kernel_rfl) rfl rfl ⟨g0, g1, g2, g3⟩ (fun hHeld => ?_)
 refine tq_ (i := 0) (N := (some 5)) (v := ?_) (a' := ?_) rfl rfl (by kernel_rfl) (fun _ _ _ h => h) (Or.inl ⟨by rfl, ?_⟩) hHeld ?_ ?_
 rotate_left; (rintro w' ⟨s0, s1, s2, s3⟩; go_simp; with_reducible rfl); rotate_left; (simp only [Act.put, s1_, s2_, s3_, i64_w, i32_w]; rfl)
 refine pq_ (i := 1) (N := (some 6)) (v := ?_) (a' := ?_) rfl rfl (by kernel_rfl) (fun _ _ _ h => h) (Or.inl ⟨by rfl, ?_⟩) ?_ ?_
 rotate_left; (intro w'; go_simp; with_reducible rfl); rotate_left; (simp only [Act.put, s1_, s2_, s3_, i64_w, i32_w]; rfl)
 refine tq_ (i := 2) (N := (some 7)) (v := ?_) (a' := ?_) rfl rfl (by kernel_rfl) (fun _ _ _ h => h) (Or.inl ⟨by rfl, ?_⟩) hHeld ?_ ?_
 rotate_left; (rintro w' ⟨s0, s1, s2, s3⟩; go_simp; with_reducible rfl); rotate_left; (simp only [Act.put, s1_, s2_, s3_, i64_w, i32_w]; rfl)
 refine tq_ (i := 4) (N := (some 9)) (v := ?_) (a' := ?_) rfl rfl (by kernel_rfl) (fun _ _ _ h => h) (Or.inl ⟨by rfl, ?_⟩) hHeld ?_ ?_
 rotate_left; (rintro w' ⟨s0, s1, s2, s3⟩; go_simp; with_reducible rfl); rotate_left; (simp only [Act.put, s1_, s2_, s3_, i64_w, i32_w]; rfl)
 refine one_ (i := 3) (N := (some 8)) #[true, true, true, true, true, false, false] rfl rfl (by kernel_rfl) (by decide) (fun K hK => ?_)
 refine goes_ Try.func42 (by kernel_rfl) rfl #[.agg #[.int .i64 ro, .slice A n c], .int .i64 (i : Int)] (by rfl) rfl rfl (by (try simp only [List.map_toArray, List.map_cons, List.map_nil]); first | done | rfl) ?_
 refine (impl_FaceLevel ro A n c l i _ ((r.to hB.out).to bD) hok hn hi).mono ?_
 rintro e wa ⟨rfl, ba⟩
 refine ⟨_, rfl, ?_⟩
 have bA := bD.trans ba
 refine hK.out _ _ ⟨pw_cell_below bA.out g0, pw_cell_below bA.out g1, pw_cell_below bA.out g2, pw_cell_below bA.out g3⟩ (fun hHeld => ?_)
 clear hK K; refine norm_ (a' := ?_) ?_ ?_; rotate_left; (show Act.put _ (some 8) _ = _; simp only [Act.put, s1_, s2_, s3_, i64_w, i32_w]; rfl)
 refine pq_ (i := 5) (N := (some 10)) (v := ?_) (a' := ?_) rfl rfl (by kernel_rfl) (fun _ _ _ h => h) (Or.inl ⟨by rfl, ?_⟩) ?_ ?_
 rotate_left; (intro w'; go_simp; with_reducible rfl); rotate_left; (simp only [Act.put, s1_, s2_, s3_, i64_w, i32_w]; rfl)
 clear hHeld
 refine last_ (i := 6) (N := (some 4)) #[true, true, true, true, true, true, true] rfl rfl (by kernel_rfl) (by decide) (fun K hK => ?_)
 refine value_ (w1 := ?_) (v := ?_) (by rfl) rfl ?_ ?_
 rotate_left 2
 ·go_simp
  constructor
  ·rfl
  ·rfl
 refine hK.out _ _ ?_
 clear hK K; refine norm_ (a' := ?_) ?_ ?_; rotate_left; (show Act.put _ (some 4) _ = _; simp only [Act.put, s1_, s2_, s3_, i64_w, i32_w]; rfl)
 refine done_ (by kernel_rfl) ?_
 have hBB := hB.out.trans bA
 clear bD ba bA
 go_wp2
 go_ret
 exact ⟨rfl, hBB⟩
set_option maxHeartbeats 4000000 in
set_option maxRecDepth 100000 in
theorem impl_DropLevel (ro lev : Int) (A : Option Addr) (n c : Nat) (l : List Ce) (B : Option Addr) (m d : Nat) (L : List Ev) (w : World) (r : IdR w A n l) (re : EvR w B m L) (hok : meshOk ro l = true) (hn : n ≤ 128) (hm : m ≤ 1000000)
  (hq : ∀ j, j < m → 0 ≤ (ge L j).v ∧ (ge L j).v + 1 < (n : Int)) :
  Calls Try.prog 16 #[.agg #[.int .i64 ro, .slice A n c], .slice B m d, .int .i64 lev] w fun e w' => ∃ A' c', e = .returned (.slice A' (kept (fun x => faceL l x.v.toNat == lev) L m) c') ∧ Bw w w' := by
 have hk0 := heap_alloc_new w (.cells #[.int .i64 ro, .slice A n c] 26 (0, 0))
 have hl0 := heap_alloc_new (w.alloc (.cells #[.int .i64 ro, .slice A n c] 26)) (.cells #[.int .i64 lev] 3 (0, 0))
 rw [show (w.alloc (.cells #[.int .i64 ro, .slice A n c] 26)).heap.size = w.heap.size + 1 by simp] at hl0
 have b0 := (Bw.box1 w (.cells #[.int .i64 ro, .slice A n c] 26)).alloc (.cells #[.int .i64 lev] 3)
 have HM := hid (((Bw.refl (w.alloc (.cells #[.int .i64 ro, .slice A n c] 26))).alloc (.cells #[.int .i64 lev] 3)).out.block _ (blk_lt hk0) |>.trans hk0)
 have HL := hid hl0
 have HOK := hid hok
 have HQ := hid hq
 have HR := hid r
 clear hk0 hl0 hok hq r
 have hB := hid b0
 have re1 := re.to b0
 clear b0 re
 go_enter Try.func16, Try.ntmps16
 go_upto_region 1 with fail
 generalize ((w.alloc (.cells #[.int .i64 ro, .slice A n c] 26)).alloc (.cells #[.int .i64 lev] 3)) = W1 at *
 have g0 : W1.cell? ⟨w.heap.size, 0, none⟩ = some (.int .i64 ro) := (blk_cell HM.out 0).trans rfl
 have g1 : W1.cell? ⟨w.heap.size, 1, none⟩ = some (.slice A n c) := (blk_cell HM.out 1).trans rfl
 go_wp2_with fail
 refine (impl_MeshOk ro A n c l _ (HR.out.to hB.out)).mono ?_
 rintro e w2 ⟨rfl, b2⟩
 rw [HOK.out]
 have re2 := re1.to b2
 have HM2 := hid ((b2.out.block _ (blk_lt HM.out)).trans HM.out)
 have HL2 := hid ((b2.out.block _ (blk_lt HL.out)).trans HL.out)
 have HB2 := hid (hB.out.trans b2)
 clear re1 HM HL hB b2 g0 g1
 go_wp2_with fail
 refine (cloneEvs B m d L _ re2 (by omega)).mono ?_
 rintro e w3 ⟨v, rfl, o3, b3⟩
 obtain ⟨E, dE, rfl, _, _⟩ := o3.reads
 have hp : PredE 41 #[.pointer (some ⟨w.heap.size, 0, none⟩), .pointer (some ⟨w.heap.size + 1, 0, none⟩)] (fun x => 0 ≤ x.v ∧ x.v + 1 < (n : Int)) (fun x => faceL l x.v.toNat == lev) w2 := ⟨fun W x hx bW => by
  obtain ⟨q, f⟩ := x
  obtain ⟨i, rfl⟩ : ∃ i : Nat, f = (i : Int) := ⟨f.toNat, by have := hx.1; simp only at this; omega⟩
  have := dropC ro lev A n c l i w.heap.size (w.heap.size + 1) q W ((HR.out.to HB2.out).to bW) HOK.out hn (by have := hx.2; simp only at this; omega)
   (pw_cell_below bW.out ((blk_cell HM2.out 0).trans (show _ = some (Value.int .i64 ro) from rfl))) (pw_cell_below bW.out ((blk_cell HM2.out 1).trans (show _ = some (Value.slice A n c) from rfl))) (pw_cell_below bW.out ((blk_cell HL2.out 0).trans (show _ = some (Value.int .i64 lev) from rfl)))
  simpa using this⟩
 have HP := hid hp
 have HO3 := hid o3
 have HB3 := hid b3
 clear hp o3 b3
 go_wp2_with fail
 refine (DeleteFuncE E m dE L _ _ _ _ w2 _ HB3.out HO3.out HQ.out HP.out (enters_of Try.func41 (by kernel_rfl) rfl) (by omega)).mono ?_
 rintro e w4 ⟨A', c', rfl, b4⟩
 have hBF := HB2.out.trans b4
 clear HB2 HB3 HO3 HP
 go_wp2
 go_ret
 exact ⟨_, _, rfl, hBF⟩
end Go.Proofs.Ytkendhkaheoinaa.U
