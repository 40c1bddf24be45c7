
/- The law FnDigests returns true at all codes. -/
import Derived.Test.YtaemkneppphkmaaDy
import Derived.Test.YtaemkneppphkmaaDg
import Derived.Test.YtaemkneppphkmaaPl
import Derived.Test.YtaemkneppphkmaaSi
import Derived.Test.YtaemkneppphkmaaOs
set_option linter.unusedVariables false
set_option linter.unusedSimpArgs false
namespace Go.Proofs.Ytaemkneppphkmaa.U
open Go.RowKit Go.Lib Go.Proofs.YtaemkneppphkmaaW.PrintWords

open Go.Proofs.YtaemkneppphkmaaW.PrintLast Go.Proofs.YtaemkneppphkmaaW.PrintMore
theorem leafStep_ne {r r' lev m t : Int} (h : 0 ≤ r ∧ r < 1000003) (h' : 0 ≤ r' ∧ r' < 1000003) (hne : r ≠ r') : leafStep r lev m t ≠ leafStep r' lev m t := by
  unfold leafStep
  omega
theorem leafStep_up {r lev m t d : Int} (hd : 1 ≤ d ∧ d ≤ 10000) : leafStep r lev (m + d) t ≠ leafStep r lev m t := by
  unfold leafStep
  omega
theorem bedD_ne (bd : List Int) {r r' : Int} (h : 0 ≤ r ∧ r < 1000003) (h' : 0 ≤ r' ∧ r' < 1000003) (hne : r ≠ r') : ∀ j, bedD bd r j ≠ bedD bd r' j
  | 0 => hne
  | j + 1 => by
    have h1 := bedD_ne bd h h' hne j
    have h2 := bedD_range bd r h j
    have h3 := bedD_range bd r' h' j
    rw [bedD, bedD]
    omega
theorem rd_set {l : List Int} {i j : Nat} {x : Int} (hi : i < l.length) : rd (l.set i x) (j : Int) = if j = i then x else rd l (j : Int) := by
  rw [rd_nat, rd_nat, List.getD_eq_getElem?_getD, List.getD_eq_getElem?_getD, List.getElem?_set]
  by_cases h : i = j
  · subst h
    simp [hi]
  · rw [if_neg h, if_neg (fun e => h e.symm)]
/-- a state with another mass -/
def upM (s : Sta) (i : Nat) (x : Int) : Sta := ⟨s.ro, s.lv, s.ms.set i x, s.ts, s.bd⟩
theorem leafD_up (s : Sta) {i : Nat} {d : Int} (hi : i < s.ms.length) (hd : 1 ≤ d ∧ d ≤ 10000) : ∀ j, (j ≤ i → leafD (upM s i (rd s.ms (i : Int) + d)) j = leafD s j) ∧ (i < j → leafD (upM s i (rd s.ms (i : Int) + d)) j ≠ leafD s j)
  | 0 => ⟨fun _ => rfl, fun h => by omega⟩
  | j + 1 => by
    have ih := leafD_up s hi hd j
    refine ⟨fun h => ?_, fun h => ?_⟩
    · rw [leafD, leafD, ih.1 (by omega)]
      show leafStep _ (gc s.lv j).l (rd (s.ms.set i _) (j : Int)) (rd s.ts (j : Int)) = _
      rw [rd_set hi, if_neg (by omega)]
    · rw [leafD, leafD]
      show leafStep _ (gc s.lv j).l (rd (s.ms.set i _) (j : Int)) (rd s.ts (j : Int)) ≠ _
      rw [rd_set hi]
      by_cases e : j = i
      · subst e
        rw [if_pos rfl, ih.1 (Nat.le_refl _)]
        exact leafStep_up hd
      · rw [if_neg e]
        exact leafStep_ne (leafD_range _ _) (leafD_range _ _) (ih.2 (by omega))
theorem digS_up (s : Sta) {i : Nat} {d : Int} (hi : i < s.ms.length) (hl : i < s.lv.length) (hd : 1 ≤ d ∧ d ≤ 10000) : digS (upM s i (rd s.ms (i : Int) + d)) ≠ digS s :=
  bedD_ne _ (leafD_range _ _) (leafD_range _ _) ((leafD_up s hi hd s.lv.length).2 hl) _
theorem cells_of {ms ts : List Int} {n : Nat} (h : ∀ i, i < n → (0 ≤ rd ms (i : Int) ∧ rd ms (i : Int) ≤ 10000000) ∧ (0 ≤ rd ts (i : Int) ∧ rd ts (i : Int) ≤ 1000 * rd ms (i : Int))) : ∀ (d j : Nat), j + d ≤ n → cellsOk ms ts d j = true
  | 0, j, _ => rfl
  | d + 1, j, hd => by
    simp only [cellsOk, Bool.and_eq_true, inR_iff]
    exact ⟨h j (by omega), cells_of h d (j + 1) (by omega)⟩
theorem sum_le_B (B : Int) : ∀ (l : List Int), (∀ x ∈ l, x ≤ B) → l.sum ≤ B * l.length
  | [], _ => by simp
  | x :: xs, h => by
    have h1 := sum_le_B B xs (fun y hy => h y (List.mem_cons_of_mem _ hy))
    have h2 := h x (List.mem_cons_self ..)
    rw [List.sum_cons, List.length_cons]
    have h3 : B * ((xs.length + 1 : Nat) : Int) = B * xs.length + B := by rw [Int.natCast_add, Int.mul_add]; simp
    omega
theorem upM_ok {s : Sta} (h : DrawnS s) {i : Nat} {d : Int} (hi : i < s.lv.length) (hd : 1 ≤ d ∧ d ≤ 10000) : staOk (upM s i (rd s.ms (i : Int) + d)).ro (upM s i (rd s.ms (i : Int) + d)).lv (upM s i (rd s.ms (i : Int) + d)).ms (upM s i (rd s.ms (i : Int) + d)).ts (upM s i (rd s.ms (i : Int) + d)).bd = true := by
  have ho := h.ok
  have hml : i < s.ms.length := by rw [h.cs.lm]; exact hi
  have hc := h.cs
  have hn := h.n
  simp only [staOk, hasC, Bool.and_eq_true, decide_eq_true_iff] at ho ⊢
  obtain ⟨h1, ⟨⟨⟨⟨⟨h2, h3⟩, h4⟩, h5⟩, h6⟩, h7⟩⟩ := ho
  have hb : ∀ j, j < s.lv.length → (0 ≤ rd (s.ms.set i (rd s.ms (i : Int) + d)) (j : Int) ∧ rd (s.ms.set i (rd s.ms (i : Int) + d)) (j : Int) ≤ 29999) ∧ (0 ≤ rd s.ts (j : Int) ∧ rd s.ts (j : Int) ≤ 1000 * rd (s.ms.set i (rd s.ms (i : Int) + d)) (j : Int)) := fun j hj => by
    have h8 := hc.at (i := j) hj
    rw [rd_set hml]
    split
    · rename_i e
      subst e
      omega
    · omega
  refine ⟨h1, ⟨⟨⟨⟨⟨by rw [upM]; simp only [List.length_set]; exact h2, h3⟩, h4⟩, h5⟩, cells_of (n := s.lv.length) (fun j hj => by have := hb j hj; exact ⟨⟨this.1.1, by have h9 := this.1.2; show rd (s.ms.set i _) (j : Int) ≤ _; omega⟩, this.2⟩) s.lv.length 0 (by omega)⟩, ?_⟩⟩
  have h8 := sum_le_B 29999 (s.ms.set i (rd s.ms (i : Int) + d)) (fun x hx => by
    obtain ⟨j, hj, rfl⟩ := List.getElem_of_mem hx
    have hj2 : j < s.lv.length := by rw [List.length_set] at hj; omega
    have := (hb j hj2).1.2
    rwa [rd_nat, List.getD_eq_getElem?_getD, List.getElem?_eq_getElem hj] at this)
  rw [List.length_set] at h8
  show (s.ms.set i _).sum ≤ _
  omega
set_option maxHeartbeats 8000000 in
set_option maxRecDepth 100000 in
theorem law_Digests (A : Option Addr) (n c : Nat) (l : List Int) (w : World) (r : ReadsInt w .u8 A n l) (wf : ∀ x ∈ l, 0 ≤ x ∧ x ≤ 255) :
    Calls Try.prog 4 #[.slice A n c] w fun e w' => e = .returned (.bool true) ∧ Bw w w' := by
  have WF := hid wf
  clear wf
  by_cases hb : n ≤ 1048576
  · have t1 : decide (1048576 < (n : Int)) = false := decide_eq_false (by omega)
    have T1 := hid t1
    clear t1
    go_enter Try.func4, Try.ntmps4
    go_wp2_with fail
    refine (toBool (lawbig _ _ _ _) T1.out).mono ?_
    rintro e w1 ⟨rfl, rfl⟩
    go_wp2_with fail
    refine (DrawState A n c l _ r WF.out hb).mono ?_
    rintro e w1 ⟨x, s, rfl, hs, hO, b1⟩
    obtain ⟨X0, y0, X1, y1, X2, y2, X3, y3, rfl, q0, q1, q2, q3⟩ := hO.r
    obtain ⟨m, hm⟩ : ∃ m, s.lv.length = m := ⟨_, rfl⟩
    have hms : s.ms.length = m := by rw [hs.cs.lm, hm]
    have hts : s.ts.length = m := by rw [hs.cs.lt, hm]
    have hm1 : 1 ≤ m ∧ m ≤ 48 := by
      have h1 := hs.ok
      simp only [staOk, isBal, Bool.and_eq_true] at h1
      have := meshOk_len h1.1.1
      have := hs.n
      omega
    rw [hms, hts, hm] at hO ⊢
    rw [hms] at q1
    rw [hts] at q2
    rw [hm] at q0
    have HS := hid hs
    have HM := hid (show s.lv.length = m ∧ s.ms.length = m ∧ s.ts.length = m from ⟨hm, hms, hts⟩)
    clear hs hm hms hts hO
    have b2 := Bw.box1 w1 (.cells #[.int .i64 s.ro, .slice X0 m y0, .slice X1 m y1, .slice X2 m y2, .slice X3 s.bd.length y3] 36)
    have g0 := box_cell (Bw.refl (w1.alloc (.cells #[.int .i64 s.ro, .slice X0 m y0, .slice X1 m y1, .slice X2 m y2, .slice X3 s.bd.length y3] 36))) 0
    have g1 := box_cell (Bw.refl (w1.alloc (.cells #[.int .i64 s.ro, .slice X0 m y0, .slice X1 m y1, .slice X2 m y2, .slice X3 s.bd.length y3] 36))) 1
    have g2 := box_cell (Bw.refl (w1.alloc (.cells #[.int .i64 s.ro, .slice X0 m y0, .slice X1 m y1, .slice X2 m y2, .slice X3 s.bd.length y3] 36))) 2
    have g3 := box_cell (Bw.refl (w1.alloc (.cells #[.int .i64 s.ro, .slice X0 m y0, .slice X1 m y1, .slice X2 m y2, .slice X3 s.bd.length y3] 36))) 3
    have g4 := box_cell (Bw.refl (w1.alloc (.cells #[.int .i64 s.ro, .slice X0 m y0, .slice X1 m y1, .slice X2 m y2, .slice X3 s.bd.length y3] 36))) 4
    simp only [List.getElem?_toArray, List.getElem?_cons_zero, List.getElem?_cons_succ] at g0 g1 g2 g3 g4
    have bb := b1.trans b2
    go_wp2_with fail
    generalize (w1.alloc (.cells #[.int .i64 s.ro, .slice X0 m y0, .slice X1 m y1, .slice X2 m y2, .slice X3 s.bd.length y3] 36)) = w2 at *
    refine (DrawPlaces A n c l _ (r.below bb.out) WF.out hb).mono ?_
    rintro e w3 ⟨P, m2, pc, ps, rfl, hp, ⟨rfl, hpb⟩, b3⟩
    have hpl := hp.len
    have hp0 : ∀ i : Nat, i < 12 → 0 ≤ rd ps (i : Int) ∧ rd ps (i : Int) < 10000 := fun i hi => hpb _ (by
      rw [rd_nat, List.getD_eq_getElem?_getD, List.getElem?_eq_getElem (by omega)]
      exact List.getElem_mem (by omega))
    have hq0 : 0 ≤ rd ps 0 ∧ rd ps 0 < 10000 := hp0 0 (by omega)
    have hq1 : 0 ≤ rd ps 1 ∧ rd ps 1 < 10000 := hp0 1 (by omega)
    obtain ⟨ap, rfl, hcp⟩ := hp.ri.nat 0 (by omega)
    obtain ⟨_, ea, hcp1⟩ := hp.ri.nat 1 (by omega)
    obtain rfl := Option.some.inj ea
    have hcp0 : w3.cell? ap = some (.int .i64 (rd ps 0)) := hcp
    replace hcp1 : w3.cell? ⟨ap.block, ap.off + 1, none⟩ = some (.int .i64 (rd ps 1)) := by rw [add_pos _ _ (by omega)] at hcp1; exact hcp1
    clear hcp hp0 hpb hp ea hpl
    obtain ⟨p0, hp0⟩ : ∃ p, rd ps 0 = p := ⟨_, rfl⟩
    obtain ⟨p1, hp1⟩ : ∃ p, rd ps 1 = p := ⟨_, rfl⟩
    rw [hp0] at hcp0 hq0
    rw [hp1] at hcp1 hq1
    clear hp0 hp1
    replace g0 := pw_cell_below b3.out g0
    replace g1 := pw_cell_below b3.out g1
    replace g2 := pw_cell_below b3.out g2
    replace g3 := pw_cell_below b3.out g3
    replace g4 := pw_cell_below b3.out g4
    replace bb := bb.trans b3
    have q03 := hid (q0.to (b2.trans b3))
    have q13 := hid (q1.to (b2.trans b3))
    have q23 := hid (q2.to (b2.trans b3))
    have q33 := hid (q3.to (b2.trans b3))
    clear b1 b2 b3 q0 q1 q2 q3
    have K_g0 := hid g0
    have K_g1 := hid g1
    have K_g2 := hid g2
    have K_g3 := hid g3
    have K_g4 := hid g4
    have K_p0 := hid hcp0
    have K_p1 := hid hcp1
    -- the copy's box, and its masses
    have bY := Bw.box1 w3 (.cells #[.int .i64 s.ro, .slice X0 m y0, .slice X1 m y1, .slice X2 m y2, .slice X3 s.bd.length y3] 36)
    have hY := heap_alloc_new w3 (.cells #[.int .i64 s.ro, .slice X0 m y0, .slice X1 m y1, .slice X2 m y2, .slice X3 s.bd.length y3] 36 (0, 0))
    go_upto_region 6 with fail
    generalize hW4 : (w3.alloc (.cells #[.int .i64 s.ro, .slice X0 m y0, .slice X1 m y1, .slice X2 m y2, .slice X3 s.bd.length y3] 36)) = W4 at *
    have oA : OI (W4.alloc (.cells #[] 3)) W4.heap.size (.slice (some ⟨W4.heap.size, 0, none⟩) 0 0) 0 [] := OI.lit0 W4 W4.heap.size (Nat.le_refl _)
    have bA := Bw.box1 W4 (.cells #[] 3)
    replace g0 := pw_cell_below (bY.trans bA).out K_g0.out
    replace g1 := pw_cell_below (bY.trans bA).out K_g1.out
    replace g2 := pw_cell_below (bY.trans bA).out K_g2.out
    replace g3 := pw_cell_below (bY.trans bA).out K_g3.out
    replace g4 := pw_cell_below (bY.trans bA).out K_g4.out
    have hYA := (bA.out.block _ (blk_lt hY)).trans hY
    go_upto_region 7 with (at_builtin; refine appendInts (w0 := W4) W4.heap.size rfl _ _ rfl (.slice (some ⟨W4.heap.size, 0, none⟩) 0 0) [] s.ms X1 m y1 rfl rfl oA (q13.out.to (bY.trans bA)) bA.out bA.size (by simp; omega) ?_; intro v1 W5 ho hBd hgd had; rw [List.nil_append, HM.out.2.1] at ho; obtain ⟨Xq, yq, rfl, _⟩ := ho.reads; obtain ⟨G, rfl, hG⟩ := oi_form ho (by omega); have b5 : Bw W4 W5 := ⟨hBd⟩; have hY5 := (b5.out.block _ (blk_lt hY)).trans hY; have s2 := (blk_cell hY5 2).trans (show _ = some (Value.slice X1 m y1) from rfl); have f2 := blk_frozen hY5 2; clear hgd had hBd oA bA hYA)
    have hY6 := (blk_set hY5 2 (.slice (some ⟨G, 0, none⟩) m yq)).trans rfl
    have c6 := Wi.put W5 w3.heap.size 2 (.slice (some ⟨G, 0, none⟩) m yq)
    have HO6 := hid (show OI (W5.setCell ⟨w3.heap.size, 2, none⟩ (.slice (some ⟨G, 0, none⟩) m yq)) W4.heap.size (.slice (some ⟨G, 0, none⟩) m yq) m s.ms from ⟨(FO.put (⟨ho.out⟩ : FO W5 W4.heap.size 3 1 _ m s.ms) hY5 (by decide) c6).out⟩)
    have b36 := hid ((bY.trans b5).then_wi c6 (Nat.le_refl _))
    have HG := hid (show w3.heap.size < G by have := blk_lt hY; omega)
    clear c6 ho hY5 s2 f2
    generalize (W5.setCell ⟨w3.heap.size, 2, none⟩ (.slice (some ⟨G, 0, none⟩) m yq)) = W6 at *
    have y2c : W6.cell? ⟨w3.heap.size, 2, none⟩ = some (.slice (some ⟨G, 0, none⟩) m yq) := (blk_cell hY6 2).trans rfl
    replace g0 := pw_cell_below b36.out.out K_g0.out
    replace g1 := pw_cell_below b36.out.out K_g1.out
    replace g2 := pw_cell_below b36.out.out K_g2.out
    replace g3 := pw_cell_below b36.out.out K_g3.out
    replace g4 := pw_cell_below b36.out.out K_g4.out
    replace hcp0 := pw_cell_below b36.out.out K_p0.out
    replace hcp1 := pw_cell_below b36.out.out K_p1.out
    obtain ⟨i, hi⟩ : ∃ i : Nat, Int.tmod p0 (m : Int) = (i : Int) ∧ i < m := by
      refine ⟨(Int.tmod p0 (m : Int)).toNat, ?_, ?_⟩
      · rw [Int.tmod_eq_emod_of_nonneg hq0.1]
        have := Int.emod_nonneg p0 (show (m : Int) ≠ 0 by omega)
        omega
      · rw [Int.tmod_eq_emod_of_nonneg hq0.1]
        have h1 := Int.emod_nonneg p0 (show (m : Int) ≠ 0 by omega)
        have h2 := Int.emod_lt_of_pos p0 (show (0 : Int) < m by omega)
        omega
    obtain ⟨em, him⟩ := hi
    obtain ⟨rci, rfi⟩ := oi_cell HO6.out i him
    have hmi := (HS.out.cs.at (i := i) (by rw [HM.out.1]; exact him)).1
    obtain ⟨mi, hmie⟩ : ∃ mi, rd s.ms (i : Int) = mi := ⟨_, rfl⟩
    rw [hmie] at rci hmi
    have HMI := hid hmie
    have em0 : ((m : Int) == 0) = false := by simp; omega
    have ew1 : IntKind.i64.wrap (mi + 1) = mi + 1 := i64w (by omega) (by omega)
    have ew2 : IntKind.i64.wrap (mi + 1 + p1) = mi + 1 + p1 := by clear ew1; exact i64w (by omega) (by omega)
    have i4 : (0 : Int) ≤ (i : Int) := by clear ew1 ew2; omega
    have i5 : (i : Int) < (m : Int) := by clear ew1 ew2; omega
    have HP1 := hid hq1
    have HH6 := hid hY6
    clear hmie hmi hY6 hY hq0 hq1
    go_wp2
    go_quiet (fail)
    have bQ : Bw W6 (W6.drewN nq) := Bw.drawn ⟨⟨nq, rfl⟩⟩
    replace y2c := pw_cell_below bQ.out y2c
    replace rci := pw_cell_below bQ.out rci
    replace hcp1 := pw_cell_below bQ.out hcp1
    have HO7 := hid (HO6.out.to bQ)
    have HH7 := hid ((bQ.out.block _ (blk_lt HH6.out)).trans HH6.out)
    have b37 := hid (b36.out.trans bQ)
    clear rfi g0 g1 g2 g3 g4 hcp0 HO6 HH6 b36 bQ
    go_upto_region 8 with fail
    generalize (W6.drewN nq) = W7 at *
    have rc8 := (oi_cell HO7.out i him).1
    have rf8 := (oi_cell HO7.out i him).2
    rw [HMI.out] at rc8
    refine start_ (n := 15) (S := fun w' => w'.cell? ⟨w3.heap.size, 2, none⟩ = some (.slice (some ⟨G, 0, none⟩) m yq) ∧ w'.cell? ⟨G, i, none⟩ = some (.int .i64 mi) ∧ w'.cell? ⟨ap.block, ap.off + 1, none⟩ = some (.int .i64 p1)) (ds := [14]) #[false, false, false, false, false, false, false, false, false, false, false, false, false, false, false] (by kernel_rfl) rfl rfl ⟨y2c, rci, hcp1⟩ (fun hHeld => ?_)
    refine pure_ (i := 0) (N := (some 27)) (v := ?_) (a' := ?_) #[true, false, false, false, false, false, false, false, false, false, false, false, false, false, false] rfl rfl (by kernel_rfl) (fun _ _ _ h => h) (Or.inl ⟨by rfl, ?_⟩) ?_ ?_
    rotate_left
    · intro w'
      go_simp
      with_reducible rfl
    rotate_left
    · simp only [Act.put, List.setIfInBounds_toArray, List.set_cons_zero, List.set_cons_succ, i64_w, i32_w]
      rfl
    refine take_ (i := 1) (N := (some 28)) (v := ?_) (a' := ?_) #[true, true, false, false, false, false, false, false, false, false, false, false, false, false, false] rfl rfl (by kernel_rfl) (fun _ _ _ h => h) (Or.inl ⟨by rfl, ?_⟩) hHeld ?_ ?_
    rotate_left
    · rintro w' ⟨s0, s1, s2⟩
      go_simp
      with_reducible rfl
    rotate_left
    · simp only [Act.put, List.setIfInBounds_toArray, List.set_cons_zero, List.set_cons_succ, i64_w, i32_w]
      rfl
    refine pure_ (i := 2) (N := (some 29)) (v := ?_) (a' := ?_) #[true, true, true, false, false, false, false, false, false, false, false, false, false, false, false] rfl rfl (by kernel_rfl) (fun _ _ _ h => h) (Or.inl ⟨by rfl, ?_⟩) ?_ ?_
    rotate_left
    · intro w'
      go_simp
      with_reducible rfl
    rotate_left
    · simp only [Act.put, List.setIfInBounds_toArray, List.set_cons_zero, List.set_cons_succ, i64_w, i32_w]
      rfl
    refine pure_ (i := 3) (N := (some 30)) (v := ?_) (a' := ?_) #[true, true, true, true, false, false, false, false, false, false, false, false, false, false, false] rfl rfl (by kernel_rfl) (fun _ _ _ h => h) (Or.inl ⟨by rfl, ?_⟩) ?_ ?_
    rotate_left
    · intro w'
      go_simp
      with_reducible rfl
    rotate_left
    · simp only [Act.put, List.setIfInBounds_toArray, List.set_cons_zero, List.set_cons_succ, i64_w, i32_w]
      rfl
    refine take_ (i := 4) (N := (some 31)) (v := ?_) (a' := ?_) #[true, true, true, true, true, false, false, false, false, false, false, false, false, false, false] rfl rfl (by kernel_rfl) (fun _ _ _ h => h) (Or.inl ⟨by rfl, ?_⟩) hHeld ?_ ?_
    rotate_left
    · rintro w' ⟨s0, s1, s2⟩
      go_simp
      with_reducible rfl
    rotate_left
    · simp only [Act.put, List.setIfInBounds_toArray, List.set_cons_zero, List.set_cons_succ, i64_w, i32_w]
      rfl
    refine pure_ (i := 5) (N := (some 32)) (v := ?_) (a' := ?_) #[true, true, true, true, true, true, false, false, false, false, false, false, false, false, false] rfl rfl (by kernel_rfl) (fun _ _ _ h => h) (Or.inl ⟨by rfl, ?_⟩) ?_ ?_
    rotate_left
    · intro w'
      go_simp
      with_reducible rfl
    rotate_left
    · simp only [Act.put, List.setIfInBounds_toArray, List.set_cons_zero, List.set_cons_succ, i64_w, i32_w]
      rfl
    refine pure_ (i := 6) (N := (some 33)) (v := ?_) (a' := ?_) #[true, true, true, true, true, true, true, false, false, false, false, false, false, false, false] rfl rfl (by kernel_rfl) (fun _ _ _ h => h) (Or.inl ⟨by rfl, ?_⟩) ?_ ?_
    rotate_left
    · intro w'
      go_simp
      with_reducible rfl
    rotate_left
    · simp only [Act.put, List.setIfInBounds_toArray, List.set_cons_zero, List.set_cons_succ, i64_w, i32_w]
      rfl
    refine take_ (i := 7) (N := (some 34)) (v := ?_) (a' := ?_) #[true, true, true, true, true, true, true, true, false, false, false, false, false, false, false] rfl rfl (by kernel_rfl) (fun _ _ _ h => h) (Or.inl ⟨by rfl, ?_⟩) hHeld ?_ ?_
    rotate_left
    · rintro w' ⟨s0, s1, s2⟩
      go_simp
      with_reducible rfl
    rotate_left
    · simp only [Act.put, List.setIfInBounds_toArray, List.set_cons_zero, List.set_cons_succ, i64_w, i32_w]
      rfl
    refine pure_ (i := 8) (N := (some 35)) (v := ?_) (a' := ?_) #[true, true, true, true, true, true, true, true, true, false, false, false, false, false, false] rfl rfl (by kernel_rfl) (fun _ _ _ h => h) (Or.inl ⟨by rfl, ?_⟩) ?_ ?_
    rotate_left
    · intro w'
      go_simp
      with_reducible rfl
    rotate_left
    · simp only [Act.put, List.setIfInBounds_toArray, List.set_cons_zero, List.set_cons_succ, i64_w, i32_w]
      rfl
    refine pure_ (i := 9) (N := (some 36)) (v := ?_) (a' := ?_) #[true, true, true, true, true, true, true, true, true, true, false, false, false, false, false] rfl rfl (by kernel_rfl) (fun _ _ _ h => h) (Or.inl ⟨by rfl, ?_⟩) ?_ ?_
    rotate_left
    · intro w'
      go_simp
      with_reducible rfl
    rotate_left
    · simp only [Act.put, List.setIfInBounds_toArray, List.set_cons_zero, List.set_cons_succ, i64_w, i32_w]
      rfl
    refine pure_ (i := 10) (N := (some 37)) (v := ?_) (a' := ?_) #[true, true, true, true, true, true, true, true, true, true, true, false, false, false, false] rfl rfl (by kernel_rfl) (fun _ _ _ h => h) (Or.inl ⟨by rfl, ?_⟩) ?_ ?_
    rotate_left
    · intro w'
      go_simp
      with_reducible rfl
    rotate_left
    · simp only [Act.put, List.setIfInBounds_toArray, List.set_cons_zero, List.set_cons_succ, i64_w, i32_w]
      rfl
    refine take_ (i := 11) (N := (some 38)) (v := ?_) (a' := ?_) #[true, true, true, true, true, true, true, true, true, true, true, true, false, false, false] rfl rfl (by kernel_rfl) (fun _ _ _ h => h) (Or.inl ⟨by rfl, ?_⟩) hHeld ?_ ?_
    rotate_left
    · rintro w' ⟨s0, s1, s2⟩
      go_simp
      with_reducible rfl
    rotate_left
    · simp only [Act.put, List.setIfInBounds_toArray, List.set_cons_zero, List.set_cons_succ, i64_w, i32_w]
      rfl
    refine pure_ (i := 12) (N := (some 39)) (v := ?_) (a' := ?_) #[true, true, true, true, true, true, true, true, true, true, true, true, true, false, false] rfl rfl (by kernel_rfl) (fun _ _ _ h => h) (Or.inl ⟨by rfl, ?_⟩) ?_ ?_
    rotate_left
    · intro w'
      go_simp
      with_reducible rfl
    rotate_left
    · simp only [Act.put, List.setIfInBounds_toArray, List.set_cons_zero, List.set_cons_succ, i64_w, i32_w]
      rfl
    refine pure_ (i := 13) (N := (some 40)) (v := ?_) (a' := ?_) #[true, true, true, true, true, true, true, true, true, true, true, true, true, true, false] rfl rfl (by kernel_rfl) (fun _ _ _ h => h) (Or.inl ⟨by rfl, ?_⟩) ?_ ?_
    rotate_left
    · intro w'
      go_simp
      with_reducible rfl
    rotate_left
    · simp only [Act.put, List.setIfInBounds_toArray, List.set_cons_zero, List.set_cons_succ, i64_w, i32_w]
      rfl
    clear hHeld
    refine last_ (i := 14) (N := none) #[true, true, true, true, true, true, true, true, true, true, true, true, true, true, true] rfl rfl (by kernel_rfl) (by decide) (fun K hK => ?_)
    refine skip_ (w1 := ?_) (by rfl) rfl ?_ ?_
    rotate_left
    · go_simp
      rfl
    refine hK.out _ _ ?_
    clear hK K
    refine done_ (by kernel_rfl) ?_
    have hset : s.ms.set i (mi + 1 + p1) = s.ms.set i (rd s.ms (i : Int) + (1 + p1)) := by rw [HMI.out, Int.add_assoc]
    have bD : Bw (W7.setCell ⟨G, i, none⟩ (.int .i64 (mi + 1 + p1))) (W7.setCell ⟨G, i, none⟩ (.int .i64 (mi + 1 + p1))).drew := Bw.drawn (a := W7.setCell ⟨G, i, none⟩ (.int .i64 (mi + 1 + p1))) ⟨⟨1, rfl⟩⟩
    have HO8 := hid (show OI (W7.setCell ⟨G, i, none⟩ (.int .i64 (mi + 1 + p1))).drew W4.heap.size (.slice (some ⟨G, 0, none⟩) m yq) m (s.ms.set i (rd s.ms (i : Int) + (1 + p1))) by rw [← hset]; exact (oi_store HO7.out i (mi + 1 + p1)).to bD)
    have b38 := hid ((bw_store b37.out (Nat.le_of_lt HG.out) i (.int .i64 (mi + 1 + p1))).trans bD)
    have hh8 := blk_far HH7.out (p := ⟨G, i, none⟩) (by show w3.heap.size ≠ G; have := HG.out; omega) (.int .i64 (mi + 1 + p1))
    have HH8 := hid ((bD.out.block _ (blk_lt hh8)).trans hh8)
    clear hset rc8 rf8 bD hh8 ew1 ew2 y2c rci hcp1 HO7 HH7 b37
    generalize (W7.setCell ⟨G, i, none⟩ (.int .i64 (mi + 1 + p1))).drew = W8 at *
    have g0 := pw_cell_below b38.out.out K_g0.out
    have g1 := pw_cell_below b38.out.out K_g1.out
    have g2 := pw_cell_below b38.out.out K_g2.out
    have g3 := pw_cell_below b38.out.out K_g3.out
    have g4 := pw_cell_below b38.out.out K_g4.out
    obtain ⟨D, hD⟩ : ∃ D, digS s = D := ⟨_, rfl⟩
    have hDr := digS_range s
    rw [hD] at hDr
    obtain ⟨E, hE⟩ : ∃ E, digS (upM s i (rd s.ms (i : Int) + (1 + p1))) = E := ⟨_, rfl⟩
    have hne : E ≠ D := by rw [← hE, ← hD]; exact digS_up s (by rw [HM.out.2.1]; exact him) (by rw [HM.out.1]; exact him) (by have := HP1.out; omega)
    have u1 : decide (D ≥ 0) = true := decide_eq_true hDr.1
    have u2 : decide (D < 1000003) = true := decide_eq_true hDr.2
    have u3 : (E != D) = true := by simp [hne]
    have HDD := hid hD
    have HEE := hid hE
    clear hD hE hDr hne
    have sR : ∀ W, Bw w3 W → StR W (.agg #[.int .i64 s.ro, .slice X0 m y0, .slice X1 m y1, .slice X2 m y2, .slice X3 s.bd.length y3]) s := fun W b => ⟨X0, y0, X1, y1, X2, y2, X3, y3, by rw [HM.out.1, HM.out.2.1, HM.out.2.2], by rw [HM.out.1]; exact q03.out.to b, by rw [HM.out.2.1]; exact q13.out.to b, by rw [HM.out.2.2]; exact q23.out.to b, q33.out.to b⟩
    have SRR := hid sR
    clear sR
    go_wp2_with fail
    refine (impl_DigestOf _ s _ (SRR.out _ b38.out) HS.out.ok).mono ?_
    rintro e_ W9 ⟨rfl, b9⟩
    rw [HDD.out]
    have HH9 := hid ((b9.out.block _ (blk_lt HH8.out)).trans HH8.out)
    have z0 : W9.cell? ⟨w3.heap.size, 0, none⟩ = some (.int .i64 s.ro) := (blk_cell HH9.out 0).trans rfl
    have z1 : W9.cell? ⟨w3.heap.size, 1, none⟩ = some (.slice X0 m y0) := (blk_cell HH9.out 1).trans rfl
    have z2 : W9.cell? ⟨w3.heap.size, 2, none⟩ = some (.slice (some ⟨G, 0, none⟩) m yq) := (blk_cell HH9.out 2).trans rfl
    have z3 : W9.cell? ⟨w3.heap.size, 3, none⟩ = some (.slice X2 m y2) := (blk_cell HH9.out 3).trans rfl
    have z4 : W9.cell? ⟨w3.heap.size, 4, none⟩ = some (.slice X3 s.bd.length y3) := (blk_cell HH9.out 4).trans rfl
    have b39 := hid (b38.out.trans b9)
    have HO9 := hid (HO8.out.to b9)
    clear g0 g1 g2 g3 g4 b9
    go_wp2_with fail
    refine (impl_DigestOf _ (upM s i (rd s.ms (i : Int) + (1 + p1))) _ ⟨X0, y0, some ⟨G, 0, none⟩, yq, X2, y2, X3, y3, by simp only [upM, List.length_set]; rw [HM.out.1, HM.out.2.1, HM.out.2.2], by show IdR W9 X0 s.lv.length s.lv; rw [HM.out.1]; exact q03.out.to b39.out, by show RI W9 _ (s.ms.set i _).length _; rw [List.length_set, HM.out.2.1]; exact HO9.out.ri, by show RI W9 X2 s.ts.length s.ts; rw [HM.out.2.2]; exact q23.out.to b39.out, q33.out.to b39.out⟩ (upM_ok HS.out (by rw [HM.out.1]; exact him) (by have := HP1.out; omega))).mono ?_
    rintro e_ W10 ⟨rfl, b10⟩
    rw [HEE.out]
    have b310 := hid (b39.out.trans b10)
    have g0 := pw_cell_below b310.out.out K_g0.out
    have g1 := pw_cell_below b310.out.out K_g1.out
    have g2 := pw_cell_below b310.out.out K_g2.out
    have g3 := pw_cell_below b310.out.out K_g3.out
    have g4 := pw_cell_below b310.out.out K_g4.out
    clear z0 z1 z2 z3 z4 b10
    go_wp2_with fail
    refine (impl_DigestOf _ s _ (SRR.out _ b310.out) HS.out.ok).mono ?_
    rintro e_ W11 ⟨rfl, b11⟩
    rw [HDD.out]
    go_wp2
    go_ret
    exact ⟨rfl, (bb.trans b310.out).trans b11⟩
  · have t1 : decide (1048576 < (n : Int)) = true := decide_eq_true (by omega)
    have T1 := hid t1
    clear t1
    go_enter Try.func4, Try.ntmps4
    go_wp2_with fail
    refine (toBool (lawbig _ _ _ _) T1.out).mono ?_
    rintro e w1 ⟨rfl, rfl⟩
    go_wp2
    go_ret
    exact ⟨rfl, Bw.refl _⟩
end Go.Proofs.Ytaemkneppphkmaa.U
