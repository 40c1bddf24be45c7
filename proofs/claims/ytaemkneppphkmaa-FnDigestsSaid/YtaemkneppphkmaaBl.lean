
/- Meshes made balanced. -/
import Derived.Test.YtaemkneppphkmaaDt
import Derived.Test.YtaemkneppphkmaaIa
set_option linter.unusedVariables false
set_option linter.unusedSimpArgs false
namespace Go.Proofs.Ytaemkneppphkmaa.U
open Go.RowKit Go.Lib Go.Proofs.YtaemkneppphkmaaW.PrintWords

open Go.Proofs.YtaemkneppphkmaaW.PrintLast Go.Proofs.YtaemkneppphkmaaW.PrintMore
theorem FO.idR {w : World} {base n c : Nat} {A : Option Addr} {l : List Ce} (h : FO w base 32 3 (.slice A n c) n (idF l)) : IdR w A n l := (FO.fr h).id
theorem FO.put {w w' : World} {base t k n g : Nat} {v : Value} {F : List Int} {cs : Array Value} {e : TypeId} (h : FO w base t k v n F) (hg : w.heap[g]? = some (.cells cs e (0, 0))) (hne : t ≠ e) (c : Wi w w' g (g + 1)) : FO w' base t k v n F :=
  ⟨own_move h.out fun q hq => c.block q (own_lt h.out q hq) (fun e2 => own_ne h.out hg hne (by rw [hq, show q = g by omega]))⟩
theorem IdR.toN (A : Option Addr) (n c : Nat) (l : List Ce) (hl : l.length = n) (hc : n ≤ c) (b : Nat) (h2 : b ≤ n) :
    (∀ W : World, (Instr.slice 24 (.slice A n c) none (some (.int .i64 (b : Int))) none).run Try.prog W = .ok (.slice A b c) W) ∧ (∀ w, IdR w A n l → IdR w A b (l.take b)) := by
  subst hl
  obtain ⟨i0, hi, hz0, hz1, hz2⟩ := info_parts info_id
  have h3 := cut_to (P := Try.prog) 24 32 .i64 Try.underlying24 hi A l.length c (b : Int) (by omega) (by omega) hc
  simp only [Int.toNat_natCast] at h3
  refine ⟨h3, fun w r => ?_⟩
  have h := Kd.C_mid (k := kCe) (w := w) (A := A) (xs := l) r.out (Nat.zero_le b) h2 hc
  rw [show ((l.take b).drop 0).length = b by rw [List.length_drop, List.length_take]; omega, List.drop_zero] at h
  have ha : (A.map fun x => x.add 0) = A := by cases A <;> simp [Addr.add]
  simp only [Nat.zero_mul, ha, ite_self] at h
  exact ⟨h⟩
theorem IdR.fromN (A : Option Addr) (n c : Nat) (l : List Ce) (hl : l.length = n) (hc : n ≤ c) (a : Nat) (h1 : a ≤ n) :
    ∃ A' c', (∀ W : World, (Instr.slice 24 (.slice A n c) (some (.int .i64 (a : Int))) none none).run Try.prog W = .ok (.slice A' (n - a) c') W) ∧ (∀ w, IdR w A n l → IdR w A' (n - a) (l.drop a)) := by
  subst hl
  obtain ⟨i0, hi, hz0, hz1, hz2⟩ := info_parts info_id
  have h3 := cut_from (P := Try.prog) 24 32 .i64 Try.underlying24 hi 3 hz1 A l.length c (a : Int) (by omega) (by omega)
  simp only [Int.toNat_natCast] at h3
  refine ⟨_, _, h3, fun w r => ?_⟩
  have h := Kd.C_mid (k := kCe) (w := w) (A := A) (xs := l) r.out h1 (Nat.le_refl _) hc
  rw [show ((l.take l.length).drop a).length = l.length - a by rw [List.length_drop, List.length_take]; omega, List.take_length] at h
  exact ⟨h⟩
set_option maxHeartbeats 4000000 in
set_option maxRecDepth 100000 in
theorem spec_l04Copy (ro : Int) (A : Option Addr) (n c : Nat) (l : List Ce) (w : World) (r : IdR w A n l) (hn : n ≤ 1000000) :
    Calls Try.prog 81 #[.agg #[.int .i64 ro, .slice A n c]] w fun e w' => ∃ X y, e = .returned (.agg #[.int .i64 ro, .slice X n y]) ∧ FO w' w.heap.size 32 3 (.slice X n y) n (idF l) ∧ Bw w w' := by
  have b0 := (Bw.box1 w (.cells #[.int .i64 ro, .slice A n c] 26)).alloc (.cells #[.int .i64 0, .slice none 0 0] 26)
  have g0 := box_cell ((Bw.refl (w.alloc (.cells #[.int .i64 ro, .slice A n c] 26))).alloc (.cells #[.int .i64 0, .slice none 0 0] 26)) 0
  have g1 := box_cell ((Bw.refl (w.alloc (.cells #[.int .i64 ro, .slice A n c] 26))).alloc (.cells #[.int .i64 0, .slice none 0 0] 26)) 1
  simp only [List.getElem?_toArray, List.getElem?_cons_zero, List.getElem?_cons_succ] at g0 g1
  have hR := heap_alloc_new (w.alloc (.cells #[.int .i64 ro, .slice A n c] 26)) (.cells #[.int .i64 0, .slice none 0 0] 26 (0, 0))
  rw [show (w.alloc (.cells #[.int .i64 ro, .slice A n c] 26)).heap.size = w.heap.size + 1 by simp] at hR
  go_enter Try.func81, Try.ntmps81
  go_upto_region 1 with fail
  generalize ((w.alloc (.cells #[.int .i64 ro, .slice A n c] 26)).alloc (.cells #[.int .i64 0, .slice none 0 0] 26)) = W1 at *
  refine start_ (n := 8) (S := fun w' => w'.cell? ⟨w.heap.size, 0, none⟩ = some (.int .i64 ro) ∧ w'.cell? ⟨w.heap.size, 1, none⟩ = some (.slice A n c)) (ds := [7]) #[false, false, false, false, false, false, false, false] (by kernel_rfl) rfl rfl ⟨g0, g1⟩ (fun hHeld => ?_)
  refine pure_ (i := 0) (N := (some 3)) (v := ?_) (a' := ?_) #[true, false, false, false, false, false, false, false] rfl rfl (by kernel_rfl) (fun _ _ _ h => h) (Or.inl ⟨by rfl, ?_⟩) ?_ ?_
  rotate_left
  · intro w'
    go_simp
    with_reducible rfl
  rotate_left
  · simp only [Act.put, List.setIfInBounds_toArray, List.set_cons_zero, List.set_cons_succ, i64_w, i32_w]
    rfl
  refine take_ (i := 1) (N := (some 4)) (v := ?_) (a' := ?_) #[true, true, false, false, false, false, false, false] rfl rfl (by kernel_rfl) (fun _ _ _ h => h) (Or.inl ⟨by rfl, ?_⟩) hHeld ?_ ?_
  rotate_left
  · rintro w' ⟨s0, s1⟩
    go_simp
    with_reducible rfl
  rotate_left
  · simp only [Act.put, List.setIfInBounds_toArray, List.set_cons_zero, List.set_cons_succ, i64_w, i32_w]
    rfl
  refine pure_ (i := 3) (N := (some 6)) (v := ?_) (a' := ?_) #[true, true, false, true, false, false, false, false] rfl rfl (by kernel_rfl) (fun _ _ _ h => h) (Or.inl ⟨by rfl, ?_⟩) ?_ ?_
  rotate_left
  · intro w'
    go_simp
    with_reducible rfl
  rotate_left
  · simp only [Act.put, List.setIfInBounds_toArray, List.set_cons_zero, List.set_cons_succ, i64_w, i32_w]
    rfl
  refine take_ (i := 4) (N := (some 7)) (v := ?_) (a' := ?_) #[true, true, false, true, true, false, false, false] rfl rfl (by kernel_rfl) (fun _ _ _ h => h) (Or.inl ⟨by rfl, ?_⟩) hHeld ?_ ?_
  rotate_left
  · rintro w' ⟨s0, s1⟩
    go_simp
    with_reducible rfl
  rotate_left
  · simp only [Act.put, List.setIfInBounds_toArray, List.set_cons_zero, List.set_cons_succ, i64_w, i32_w]
    rfl
  clear hHeld
  have bD := Bw.drawn (a := W1) ⟨⟨1, rfl⟩⟩
  have bA := Bw.box1 (W1.drewN 1) (.cells #[] 32)
  have oA := IdO.lit0 (W1.drewN 1)
  have bDA := bD.trans bA
  refine one_ (i := 2) (N := (some 5)) #[true, true, true, true, true, false, false, false] rfl rfl (by kernel_rfl) (by decide) (fun K hK => ?_)
  refine value_ (w1 := ?_) (v := ?_) (by rfl) rfl ?_ ?_
  rotate_left 2
  · go_simp
    constructor
    · rfl
    · rfl
  refine hK.out _ _ ⟨pw_cell_below bDA.out g0, pw_cell_below bDA.out g1⟩ (fun _ => ?_)
  rename_i hJ_
  clear hJ_
  clear hK K
  refine norm_ (a' := ?_) ?_ ?_
  rotate_left
  · show Act.put _ (some 5) _ = _
    simp only [Act.put, List.setIfInBounds_toArray, List.set_cons_zero, List.set_cons_succ, i64_w, i32_w]
    rfl
  refine one_ (i := 5) (N := (some 8)) #[true, true, true, true, true, true, false, false] rfl rfl (by kernel_rfl) (by decide) (fun K hK => ?_)
  refine appendIds_step (w0 := W1.drewN 1) (W1.drewN 1).heap.size (by rfl) (.tmp 5) (.tmp 7) rfl (.slice (some ⟨(W1.drewN 1).heap.size, 0, none⟩) 0 0) [] l A n c rfl rfl oA (r.to (b0.trans bDA)) bA.out bA.size (by simp; omega) ?_
  intro v1 wd ho hBd hgd had
  rw [List.nil_append, r.len] at ho
  obtain ⟨X, y, rfl, hy, _⟩ := FO.reads ho
  have bW : Bw W1 wd := bD.trans ⟨hBd⟩
  refine hK.out _ _ ⟨pw_cell_below bW.out g0, pw_cell_below bW.out g1⟩ (fun _ => ?_)
  rename_i hJ_
  clear hJ_
  clear hK K
  refine norm_ (a' := ?_) ?_ ?_
  rotate_left
  · show Act.put _ (some 8) _ = _
    simp only [Act.put, List.setIfInBounds_toArray, List.set_cons_zero, List.set_cons_succ, i64_w, i32_w]
    rfl
  refine pure_ (i := 6) (N := (some 9)) (v := ?_) (a' := ?_) #[true, true, true, true, true, true, true, false] rfl rfl (by kernel_rfl) (fun _ _ _ h => h) (Or.inl ⟨by rfl, ?_⟩) ?_ ?_
  rotate_left
  · intro w'
    go_simp
    with_reducible rfl
  rotate_left
  · simp only [Act.put, List.setIfInBounds_toArray, List.set_cons_zero, List.set_cons_succ, i64_w, i32_w]
    rfl
  have hRk := (bW.out.block _ (blk_lt hR)).trans hR
  have bb := b0.trans bW
  replace ho : FO wd w.heap.size 32 3 (.slice X n y) n (idF l) := FO.less ho (by have := bD.size; have := b0.size; omega)
  have s0 := (blk_cell hRk 0).trans (show _ = some (Value.int .i64 0) from rfl)
  have s1 := (blk_cell hRk 1).trans (show _ = some (Value.slice none 0 0) from rfl)
  have f0 := blk_frozen hRk 0
  have f1 := blk_frozen hRk 1
  have HF := hid (show ((wd.setCell ⟨w.heap.size + 1, 0, none⟩ (.int .i64 ro)).setCell ⟨w.heap.size + 1, 1, none⟩ (.slice X n y)).heap[w.heap.size + 1]? = some (.cells #[.int .i64 ro, .slice X n y] 26 (0, 0)) from blk_set (blk_set hRk 0 _) 1 _)
  have CF : Wi wd ((wd.setCell ⟨w.heap.size + 1, 0, none⟩ (.int .i64 ro)).setCell ⟨w.heap.size + 1, 1, none⟩ (.slice X n y)) (w.heap.size + 1) (w.heap.size + 1 + 1) := ((Wi.refl wd _ _).trans (Wi.put _ _ 0 _)).trans (Wi.put _ _ 1 _)
  have HOF := hid (FO.put ho hRk (by decide) CF)
  have HBF := hid (bb.then_wi CF (by omega))
  clear CF hRk ho bb
  refine last_ (i := 7) (N := none) #[true, true, true, true, true, true, true, true] rfl rfl (by kernel_rfl) (by decide) (fun K hK => ?_)
  refine skip_ (w1 := ?_) (by rfl) rfl ?_ ?_
  rotate_left
  · go_simp
    rfl
  refine hK.out _ _ ?_
  clear hK K
  refine done_ (by kernel_rfl) ?_
  go_wp2
  refine bodyPost_ret (results_cell_row rfl _ _ (w.heap.size + 1) 26 #[.int .i64 ro, .slice X n y] (0, 0) _ rfl HF.out Try.underlying26 rfl (by kernel_rfl)) rfl ?_
  exact ⟨_, _, rfl, HOF.out, HBF.out⟩
theorem lit2Ids (W : World) (a b : Ce) : IdR (W.alloc (.cells #[.int .i64 a.r, .int .i64 a.l, .int .i64 a.i, .int .i64 b.r, .int .i64 b.l, .int .i64 b.i] 32)) (some ⟨W.heap.size, 0, none⟩) 2 [a, b] := by
  have h := World.ownsRow_lit (base := W.heap.size) (e := 32) (size := 3) W #[.int .i64 a.r, .int .i64 a.l, .int .i64 a.i, .int .i64 b.r, .int .i64 b.l, .int .i64 b.i] 2 (Nat.le_refl _) (by simp [maxLen]) (by simp)
  have f : FO (W.alloc (.cells #[.int .i64 a.r, .int .i64 a.l, .int .i64 a.i, .int .i64 b.r, .int .i64 b.l, .int .i64 b.i] 32)) W.heap.size 32 3 (.slice (some ⟨W.heap.size, 0, none⟩) 2 2) 2 (idF [a, b]) := ⟨by simpa [idF, nums] using h⟩
  exact f.idR
/-- a mesh's leaf replaced by its children -/
def splitC (l : List Ce) (i : Nat) : List Ce := l.take i ++ [kid (gc l i) 0, kid (gc l i) 1] ++ l.drop (i + 1)
theorem spec_l05Coarser (ro : Int) (A : Option Addr) (n c : Nat) (l : List Ce) (i : Nat) (w : World) (r : IdR w A n l) (hi : i + 1 < n) :
    Calls Try.prog 114 #[.agg #[.int .i64 ro, .slice A n c], .int .i64 i] w fun e w' => e = .returned (.int .i64 ((if (gc l i).l > (gc l (i + 1)).l then i + 1 else i : Nat) : Int)) ∧ Bw w w' := by
  have hmx := r.max
  have b0 := Bw.box1 w (.cells #[.int .i64 ro, .slice A n c] 26)
  have g0 := box_cell (Bw.refl (w.alloc (.cells #[.int .i64 ro, .slice A n c] 26))) 0
  have g1 := box_cell (Bw.refl (w.alloc (.cells #[.int .i64 ro, .slice A n c] 26))) 1
  simp only [List.getElem?_toArray, List.getElem?_cons_zero, List.getElem?_cons_succ] at g0 g1
  obtain ⟨ad, rfl, x0, x1, x2⟩ := (r.to b0).at i (by omega)
  obtain ⟨_, e_, y0, y1, y2⟩ := (r.to b0).at (i + 1) hi
  obtain rfl := Option.some.inj e_
  have e1 : IntKind.i64.wrap ((i : Int) + 1) = (i : Int) + 1 := i64w (by omega) (by omega)
  have i4 : (0 : Int) ≤ (i : Int) := by omega
  have i5 : (i : Int) < (n : Int) := by omega
  have i6 : (0 : Int) ≤ (i : Int) + 1 := by omega
  have i7 : (i : Int) + 1 < (n : Int) := by omega
  by_cases hgt : (gc l i).l > (gc l (i + 1)).l
  · rw [if_pos hgt]
    have t1 : decide ((gc l i).l > (gc l (i + 1)).l) = true := decide_eq_true hgt
    clear hgt e_
    go_enter Try.func114, Try.ntmps114
    go_wp2
    go_quiet (fail)
    go_wp2
    go_ret
    exact ⟨rfl, b0.trans (Bw.drawn ⟨⟨_, rfl⟩⟩)⟩
  · rw [if_neg hgt]
    have t1 : decide ((gc l i).l > (gc l (i + 1)).l) = false := decide_eq_false hgt
    clear hgt e_
    go_enter Try.func114, Try.ntmps114
    go_wp2
    go_quiet (fail)
    go_wp2
    go_ret
    exact ⟨rfl, b0.trans (Bw.drawn ⟨⟨_, rfl⟩⟩)⟩
set_option maxHeartbeats 8000000 in
set_option maxRecDepth 100000 in
theorem spec_l05Split (ro : Int) (A : Option Addr) (n c : Nat) (l : List Ce) (i : Nat) (w : World) (r : IdR w A n l) (hc : n ≤ c) (hn : n ≤ 100000) (hi : i < n) (hx : ceOk (gc l i) = true) (hlv : (gc l i).l < 4) :
    Calls Try.prog 113 #[.agg #[.int .i64 ro, .slice A n c], .int .i64 i] w fun e w' => ∃ X y, e = .returned (.agg #[.int .i64 ro, .slice X (n + 1) y]) ∧ FO w' w.heap.size 32 3 (.slice X (n + 1) y) (n + 1) (idF (splitC l i)) ∧ Bw w w' := by
  have b0 := (Bw.box1 w (.cells #[.int .i64 ro, .slice A n c] 26)).alloc (.cells #[.int .i64 0, .slice none 0 0] 26)
  have g0 := box_cell ((Bw.refl (w.alloc (.cells #[.int .i64 ro, .slice A n c] 26))).alloc (.cells #[.int .i64 0, .slice none 0 0] 26)) 0
  have g1 := box_cell ((Bw.refl (w.alloc (.cells #[.int .i64 ro, .slice A n c] 26))).alloc (.cells #[.int .i64 0, .slice none 0 0] 26)) 1
  simp only [List.getElem?_toArray, List.getElem?_cons_zero, List.getElem?_cons_succ] at g0 g1
  have hR := heap_alloc_new (w.alloc (.cells #[.int .i64 ro, .slice A n c] 26)) (.cells #[.int .i64 0, .slice none 0 0] 26 (0, 0))
  rw [show (w.alloc (.cells #[.int .i64 ro, .slice A n c] 26)).heap.size = w.heap.size + 1 by simp] at hR
  obtain ⟨ad, rfl, x0, x1, x2⟩ := (r.to b0).at i hi
  have HM0 := hid (IdR.toN (some ad) n c l r.len hc i (by omega))
  have HM1 := hid (IdR.fromN (some ad) n c l r.len hc (i + 1) (by omega))
  have hcn := r.max
  have HX := hid hx
  have HLV := hid hlv
  obtain ⟨q0, q1, q2, hq⟩ : ∃ q0 q1 q2, gc l i = ⟨q0, q1, q2⟩ := ⟨_, _, _, rfl⟩
  rw [hq] at HX HLV x0 x1 x2
  simp only at x0 x1 x2
  have HQ := hid hq
  have i4 : (0 : Int) ≤ (i : Int) := by omega
  have i5 : (i : Int) < (n : Int) := by omega
  have e1 : IntKind.i64.wrap ((i : Int) + 1) = (i : Int) + 1 := i64w (by omega) (by omega)
  clear hx hlv hq
  go_enter Try.func113, Try.ntmps113
  go_wp2_with fail
  generalize ((w.alloc (.cells #[.int .i64 ro, .slice (some ad) n c] 26)).alloc (.cells #[.int .i64 0, .slice none 0 0] 26)) = W1 at *
  refine (spec_ChildOf ⟨q0, q1, q2⟩ 0 _ HX.out HLV.out (by omega)).mono ?_
  rintro e_ W2 ⟨rfl, b1⟩
  obtain ⟨a0, a1, a2, ha⟩ : ∃ a0 a1 a2, kid ⟨q0, q1, q2⟩ ((0 : Nat) : Int) = ⟨a0, a1, a2⟩ := ⟨_, _, _, rfl⟩
  rw [ha]
  have HA := hid ha
  clear ha
  replace b0 := (b0.trans b1).trans (Bw.box1 W2 (.cells #[.int .i64 a0, .int .i64 a1, .int .i64 a2] 32))
  replace b1 := b1.trans (Bw.box1 W2 (.cells #[.int .i64 a0, .int .i64 a1, .int .i64 a2] 32))
  replace g0 := pw_cell_below b1.out g0
  replace g1 := pw_cell_below b1.out g1
  replace x0 := pw_cell_below b1.out x0
  replace x1 := pw_cell_below b1.out x1
  replace x2 := pw_cell_below b1.out x2
  replace hR := (b1.out.block _ (blk_lt hR)).trans hR
  have y0 := box_cell (Bw.refl (W2.alloc (.cells #[.int .i64 a0, .int .i64 a1, .int .i64 a2] 32))) 0
  have y1 := box_cell (Bw.refl (W2.alloc (.cells #[.int .i64 a0, .int .i64 a1, .int .i64 a2] 32))) 1
  have y2 := box_cell (Bw.refl (W2.alloc (.cells #[.int .i64 a0, .int .i64 a1, .int .i64 a2] 32))) 2
  simp only [List.getElem?_toArray, List.getElem?_cons_zero, List.getElem?_cons_succ] at y0 y1 y2
  clear b1
  go_wp2_with fail
  generalize (W2.alloc (.cells #[.int .i64 a0, .int .i64 a1, .int .i64 a2] 32)) = W3 at *
  refine (spec_ChildOf ⟨q0, q1, q2⟩ 1 _ HX.out HLV.out (by omega)).mono ?_
  rintro e_ W4 ⟨rfl, b1⟩
  obtain ⟨c0, c1, c2, hcc⟩ : ∃ c0 c1 c2, kid ⟨q0, q1, q2⟩ ((1 : Nat) : Int) = ⟨c0, c1, c2⟩ := ⟨_, _, _, rfl⟩
  rw [hcc]
  have HCC := hid hcc
  clear hcc
  replace b0 := (b0.trans b1).trans (Bw.box1 W4 (.cells #[.int .i64 c0, .int .i64 c1, .int .i64 c2] 32))
  replace b1 := b1.trans (Bw.box1 W4 (.cells #[.int .i64 c0, .int .i64 c1, .int .i64 c2] 32))
  replace g0 := pw_cell_below b1.out g0
  replace g1 := pw_cell_below b1.out g1
  replace x0 := pw_cell_below b1.out x0
  replace x1 := pw_cell_below b1.out x1
  replace x2 := pw_cell_below b1.out x2
  replace y0 := pw_cell_below b1.out y0
  replace y1 := pw_cell_below b1.out y1
  replace y2 := pw_cell_below b1.out y2
  replace hR := (b1.out.block _ (blk_lt hR)).trans hR
  have u0 := box_cell (Bw.refl (W4.alloc (.cells #[.int .i64 c0, .int .i64 c1, .int .i64 c2] 32))) 0
  have u1 := box_cell (Bw.refl (W4.alloc (.cells #[.int .i64 c0, .int .i64 c1, .int .i64 c2] 32))) 1
  have u2 := box_cell (Bw.refl (W4.alloc (.cells #[.int .i64 c0, .int .i64 c1, .int .i64 c2] 32))) 2
  simp only [List.getElem?_toArray, List.getElem?_cons_zero, List.getElem?_cons_succ] at u0 u1 u2
  clear b1
  obtain ⟨hm0, rT⟩ := HM0.out
  obtain ⟨A2, c2_, hm1, rD⟩ := HM1.out
  rw [show ((i + 1 : Nat) : Int) = (i : Int) + 1 by omega] at hm1
  have hti : (l.take i).length = i := by rw [List.length_take, r.len]; omega
  have HTI := hid hti
  clear hti
  go_upto_region 3 with fail
  generalize (W4.alloc (.cells #[.int .i64 c0, .int .i64 c1, .int .i64 c2] 32)) = W5 at *
  have K_g0 := hid g0
  have K_g1 := hid g1
  have K_y0 := hid y0
  have K_y1 := hid y1
  have K_y2 := hid y2
  have K_u0 := hid u0
  have K_u1 := hid u1
  have K_u2 := hid u2
  have K_R := hid hR
  clear hR x0 x1 x2
  have oA := IdO.lit0 W5
  have bA := Bw.box1 W5 (.cells #[] 32)
  have rT5 := rT _ (r.to (b0.trans bA))
  replace g0 := pw_cell_below bA.out K_g0.out
  replace g1 := pw_cell_below bA.out K_g1.out
  replace y0 := pw_cell_below bA.out K_y0.out
  replace y1 := pw_cell_below bA.out K_y1.out
  replace y2 := pw_cell_below bA.out K_y2.out
  replace u0 := pw_cell_below bA.out K_u0.out
  replace u1 := pw_cell_below bA.out K_u1.out
  replace u2 := pw_cell_below bA.out K_u2.out
  go_upto_region 4 with (at_builtin; refine appendIds (w0 := W5) W5.heap.size rfl _ _ rfl (.slice (some ⟨W5.heap.size, 0, none⟩) 0 0) [] (l.take i) (some ad) i c rfl rfl oA rT5 bA.out bA.size (by simp; omega) ?_; intro v1 W6 ho hBd hgd had; rw [List.nil_append, HTI.out] at ho; obtain ⟨X, y, rfl, hy, _⟩ := FO.reads ho; have bW : Bw W5 W6 := ⟨hBd⟩; clear hgd had hBd oA bA rT5; replace g0 := pw_cell_below bW.out K_g0.out; replace g1 := pw_cell_below bW.out K_g1.out; replace y0 := pw_cell_below bW.out K_y0.out; replace y1 := pw_cell_below bW.out K_y1.out; replace y2 := pw_cell_below bW.out K_y2.out; replace u0 := pw_cell_below bW.out K_u0.out; replace u1 := pw_cell_below bW.out K_u1.out; replace u2 := pw_cell_below bW.out K_u2.out)
  have bL := Bw.box1 W6 (.cells #[.int .i64 a0, .int .i64 a1, .int .i64 a2, .int .i64 c0, .int .i64 c1, .int .i64 c2] 32)
  have rL := lit2Ids W6 ⟨a0, a1, a2⟩ ⟨c0, c1, c2⟩
  have bWL := bW.trans bL
  go_upto_region 5 with (at_builtin; refine appendIds (w0 := W5) W5.heap.size rfl _ _ rfl (.slice X i y) (l.take i) [⟨a0, a1, a2⟩, ⟨c0, c1, c2⟩] (some ⟨W6.heap.size, 0, none⟩) 2 2 rfl rfl (by rw [HTI.out]; exact ho.to bL) rL bWL.out bWL.size (by rw [HTI.out]; omega) ?_; intro v1 W7 ho7 hBd hgd had; rw [List.length_append, HTI.out] at ho7; obtain ⟨X7, y7, rfl, hy7, _⟩ := FO.reads ho7; have bW7 : Bw W5 W7 := ⟨hBd⟩; clear hgd had hBd ho bL rL bWL; replace g0 := pw_cell_below bW7.out K_g0.out; replace g1 := pw_cell_below bW7.out K_g1.out; replace y0 := pw_cell_below bW7.out K_y0.out; replace y1 := pw_cell_below bW7.out K_y1.out; replace y2 := pw_cell_below bW7.out K_y2.out; replace u0 := pw_cell_below bW7.out K_u0.out; replace u1 := pw_cell_below bW7.out K_u1.out; replace u2 := pw_cell_below bW7.out K_u2.out; clear y0 y1 y2 u0 u1 u2 bW)
  refine start_ (n := 11) (S := fun w' => w'.cell? ⟨w.heap.size, 0, none⟩ = some (.int .i64 ro) ∧ w'.cell? ⟨w.heap.size, 1, none⟩ = some (.slice (some ad) n c)) (ds := [10]) #[false, false, false, false, false, false, false, false, false, false, false] (by kernel_rfl) rfl rfl ⟨g0, g1⟩ (fun hHeld => ?_)
  refine pure_ (i := 0) (N := (some 39)) (v := ?_) (a' := ?_) #[true, false, false, false, false, false, false, false, false, false, false] rfl rfl (by kernel_rfl) (fun _ _ _ h => h) (Or.inl ⟨by rfl, ?_⟩) ?_ ?_
  rotate_left
  · intro w'
    go_simp
    with_reducible rfl
  rotate_left
  · simp only [Act.put, List.setIfInBounds_toArray, List.set_cons_zero, List.set_cons_succ, i64_w, i32_w]
    rfl
  refine take_ (i := 1) (N := (some 40)) (v := ?_) (a' := ?_) #[true, true, false, false, false, false, false, false, false, false, false] rfl rfl (by kernel_rfl) (fun _ _ _ h => h) (Or.inl ⟨by rfl, ?_⟩) hHeld ?_ ?_
  rotate_left
  · rintro w' ⟨s0, s1⟩
    go_simp
    with_reducible rfl
  rotate_left
  · simp only [Act.put, List.setIfInBounds_toArray, List.set_cons_zero, List.set_cons_succ, i64_w, i32_w]
    rfl
  refine pure_ (i := 2) (N := (some 41)) (v := ?_) (a' := ?_) #[true, true, true, false, false, false, false, false, false, false, false] rfl rfl (by kernel_rfl) (fun _ _ _ h => h) (Or.inl ⟨by rfl, ?_⟩) ?_ ?_
  rotate_left
  · intro w'
    go_simp
    with_reducible rfl
  rotate_left
  · simp only [Act.put, List.setIfInBounds_toArray, List.set_cons_zero, List.set_cons_succ, i64_w, i32_w]
    rfl
  refine pure_ (i := 3) (N := (some 42)) (v := ?_) (a' := ?_) #[true, true, true, true, false, false, false, false, false, false, false] rfl rfl (by kernel_rfl) (fun _ _ _ h => h) (Or.inl ⟨by rfl, ?_⟩) ?_ ?_
  rotate_left
  · intro w'
    go_simp
    with_reducible rfl
  rotate_left
  · simp only [Act.put, List.setIfInBounds_toArray, List.set_cons_zero, List.set_cons_succ, i64_w, i32_w]
    rfl
  refine take_ (i := 4) (N := (some 43)) (v := ?_) (a' := ?_) #[true, true, true, true, true, false, false, false, false, false, false] rfl rfl (by kernel_rfl) (fun _ _ _ h => h) (Or.inl ⟨by rfl, ?_⟩) hHeld ?_ ?_
  rotate_left
  · rintro w' ⟨s0, s1⟩
    go_simp
    with_reducible rfl
  rotate_left
  · simp only [Act.put, List.setIfInBounds_toArray, List.set_cons_zero, List.set_cons_succ, i64_w, i32_w]
    rfl
  refine pure_ (i := 5) (N := (some 44)) (v := ?_) (a' := ?_) #[true, true, true, true, true, true, false, false, false, false, false] rfl rfl (by kernel_rfl) (fun _ _ _ h => h) (Or.inl ⟨by rfl, ?_⟩) ?_ ?_
  rotate_left
  · intro w'
    go_simp
    with_reducible rfl
  rotate_left
  · simp only [Act.put, List.setIfInBounds_toArray, List.set_cons_zero, List.set_cons_succ, i64_w, i32_w]
    rfl
  refine pure_ (i := 6) (N := (some 45)) (v := ?_) (a' := ?_) #[true, true, true, true, true, true, true, false, false, false, false] rfl rfl (by kernel_rfl) (fun _ _ _ h => h) (Or.inl ⟨by rfl, ?_⟩) ?_ ?_
  rotate_left
  · intro w'
    go_simp
    with_reducible rfl
  rotate_left
  · simp only [Act.put, List.setIfInBounds_toArray, List.set_cons_zero, List.set_cons_succ, i64_w, i32_w]
    rfl
  refine pure_ (i := 7) (N := (some 46)) (v := ?_) (a' := ?_) #[true, true, true, true, true, true, true, true, false, false, false] rfl rfl (by kernel_rfl) (fun _ _ _ h => h) (Or.inl ⟨by rfl, ?_⟩) ?_ ?_
  rotate_left
  · intro w'
    go_simp
    with_reducible rfl
  rotate_left
  · simp only [Act.put, List.setIfInBounds_toArray, List.set_cons_zero, List.set_cons_succ, i64_w, i32_w]
    rfl
  clear hHeld
  have bD := Bw.drawn (a := W7) ⟨⟨1, rfl⟩⟩
  have b7D := bW7.trans bD
  refine one_ (i := 8) (N := (some 47)) #[true, true, true, true, true, true, true, true, true, false, false] rfl rfl (by kernel_rfl) (by decide) (fun K hK => ?_)
  refine appendIds_step (w0 := W5) W5.heap.size (by rfl) (.tmp 41) (.tmp 46) rfl (.slice X7 (i + 2) y7) (l.take i ++ [⟨a0, a1, a2⟩, ⟨c0, c1, c2⟩]) (l.drop (i + 1)) A2 (n - (i + 1)) c2_ rfl rfl (by rw [List.length_append, HTI.out]; exact ho7.to bD) (rD _ (r.to (b0.trans b7D))) b7D.out b7D.size (by rw [List.length_append, HTI.out]; simp; omega) ?_
  intro v1 wd ho hBd hgd had
  have hln : (l.take i ++ [(⟨a0, a1, a2⟩ : Ce), ⟨c0, c1, c2⟩] ++ l.drop (i + 1)).length = n + 1 := by rw [List.length_append, List.length_append, HTI.out, List.length_drop, r.len]; simp; omega
  rw [hln] at ho
  obtain ⟨X8, y8, rfl, hy8, _⟩ := FO.reads ho
  have bWd : Bw W5 wd := ⟨hBd⟩
  have HLN := hid hln
  clear hln hgd had hBd
  replace g0 := pw_cell_below bWd.out K_g0.out
  replace g1 := pw_cell_below bWd.out K_g1.out
  refine hK.out _ _ ⟨g0, g1⟩ (fun _ => ?_)
  rename_i hJ_
  clear hJ_
  clear hK K
  refine norm_ (a' := ?_) ?_ ?_
  rotate_left
  · show Act.put _ (some 47) _ = _
    simp only [Act.put, List.setIfInBounds_toArray, List.set_cons_zero, List.set_cons_succ, i64_w, i32_w]
    rfl
  refine pure_ (i := 9) (N := (some 48)) (v := ?_) (a' := ?_) #[true, true, true, true, true, true, true, true, true, true, false] rfl rfl (by kernel_rfl) (fun _ _ _ h => h) (Or.inl ⟨by rfl, ?_⟩) ?_ ?_
  rotate_left
  · intro w'
    go_simp
    with_reducible rfl
  rotate_left
  · simp only [Act.put, List.setIfInBounds_toArray, List.set_cons_zero, List.set_cons_succ, i64_w, i32_w]
    rfl
  have hRk := (bWd.out.block _ (blk_lt K_R.out)).trans K_R.out
  have bb := b0.trans bWd
  replace ho : FO wd w.heap.size 32 3 (.slice X8 (n + 1) y8) (n + 1) (idF (splitC l i)) := FO.less (by rw [splitC, HQ.out]; rw [show kid ⟨q0, q1, q2⟩ 0 = ⟨a0, a1, a2⟩ from HA.out, show kid ⟨q0, q1, q2⟩ 1 = ⟨c0, c1, c2⟩ from HCC.out]; exact ho) (by have := b0.size; omega)
  clear bW7 b7D bWd
  have s0 := (blk_cell hRk 0).trans (show _ = some (Value.int .i64 0) from rfl)
  have s1 := (blk_cell hRk 1).trans (show _ = some (Value.slice none 0 0) from rfl)
  have f0 := blk_frozen hRk 0
  have f1 := blk_frozen hRk 1
  have HF := hid (show ((wd.setCell ⟨w.heap.size + 1, 0, none⟩ (.int .i64 ro)).setCell ⟨w.heap.size + 1, 1, none⟩ (.slice X8 (n + 1) y8)).heap[w.heap.size + 1]? = some (.cells #[.int .i64 ro, .slice X8 (n + 1) y8] 26 (0, 0)) from blk_set (blk_set hRk 0 _) 1 _)
  have CF : Wi wd ((wd.setCell ⟨w.heap.size + 1, 0, none⟩ (.int .i64 ro)).setCell ⟨w.heap.size + 1, 1, none⟩ (.slice X8 (n + 1) y8)) (w.heap.size + 1) (w.heap.size + 1 + 1) := ((Wi.refl wd _ _).trans (Wi.put _ _ 0 _)).trans (Wi.put _ _ 1 _)
  have HOF := hid (FO.put ho hRk (by decide) CF)
  have HBF := hid (bb.then_wi CF (by omega))
  clear CF hRk ho bb
  refine last_ (i := 10) (N := none) #[true, true, true, true, true, true, true, true, true, true, true] rfl rfl (by kernel_rfl) (by decide) (fun K hK => ?_)
  refine skip_ (w1 := ?_) (by rfl) rfl ?_ ?_
  rotate_left
  · go_simp
    rfl
  refine hK.out _ _ ?_
  clear hK K
  refine done_ (by kernel_rfl) ?_
  go_wp2
  refine bodyPost_ret (results_cell_row rfl _ _ (w.heap.size + 1) 26 #[.int .i64 ro, .slice X8 (n + 1) y8] (0, 0) _ rfl HF.out Try.underlying26 rfl (by kernel_rfl)) rfl ?_
  exact ⟨_, _, rfl, HOF.out, HBF.out⟩
theorem FO.room {w : World} {base n y : Nat} {X : Option Addr} {F : List Int} (h : FO w base 32 3 (.slice X n y) n F) : n ≤ y := by
  obtain ⟨A, c, e, hc, _⟩ := h.reads
  simp only [Value.slice.injEq] at e
  obtain ⟨_, _, rfl⟩ := e
  exact hc
theorem firstUn_some (l : List Ce) : ∀ (d j : Nat), 0 ≤ firstUn l d j → ∃ i : Nat, firstUn l d j = (i : Int) ∧ i + 1 < l.length ∧ ((gc l i).l - (gc l (i + 1)).l > 1 ∨ (gc l i).l - (gc l (i + 1)).l < -1)
  | 0, j, h => by simp [firstUn] at h
  | d + 1, j, h => by
    rw [firstUn] at h ⊢
    split at h
    · rename_i h1
      rw [if_pos h1]
      split at h
      · rename_i h2
        rw [if_pos h2]
        exact ⟨j, rfl, h1, h2⟩
      · rename_i h2
        rw [if_neg h2]
        exact firstUn_some l d (j + 1) h
    · omega
theorem split_ok {ro : Int} {l : List Ce} {i : Nat} (h : meshOk ro l = true) (hi : i < l.length) (hl : (gc l i).l < 4) : meshOk ro (splitC l i) = true := by
  have hok := meshOk_all h _ (gc_mem hi)
  have e : meshEnd (splitC l i) 0 = meshEnd l 0 := by
    have h1 : l = l.take i ++ [gc l i] ++ l.drop (i + 1) := by
      rw [gc_at hi, List.append_assoc, List.singleton_append, ← List.drop_eq_getElem_cons hi, List.take_append_drop]
    have h2 : ∀ a, meshEnd [kid (gc l i) 0, kid (gc l i) 1] a = meshEnd [gc l i] a := fun a => by
      obtain ⟨k1, k2, k3⟩ := kid_at hok hl
      rw [meshEnd, meshEnd, meshEnd, meshEnd, meshEnd]
      simp only [hok, kid_ok hok hl 0 (by omega), kid_ok hok hl 1 (by omega), true_and, k1, k2, k3, if_true]
    conv => rhs; rw [h1]
    rw [splitC, meshEnd_app, meshEnd_app, meshEnd_app, meshEnd_app]
    congr 1
    congr 1
    exact funext h2
  rw [meshOk, e]
  exact h
def sliceLen : Option Value → Nat
  | some (.slice _ n _) => n
  | _ => 0
set_option maxHeartbeats 8000000 in
set_option maxRecDepth 100000 in
theorem spec_Balance (ro : Int) (A : Option Addr) (n c : Nat) (l : List Ce) (w : World) (r : IdR w A n l) (hc : n ≤ c) (hm : meshOk ro l = true) :
    Calls Try.prog 93 #[.agg #[.int .i64 ro, .slice A n c]] w fun e w' => ∃ X n' y l', e = .returned (.agg #[.int .i64 ro, .slice X n' y]) ∧ FO w' w.heap.size 32 3 (.slice X n' y) n' (idF l') ∧ n' ≤ y ∧ isBal ro l' = true ∧ Bw w w' := by
  have b0 := (Bw.box1 w (.cells #[.int .i64 ro, .slice A n c] 26)).alloc (.cells #[.int .i64 0, .slice none 0 0] 26)
  have g0 := box_cell ((Bw.refl (w.alloc (.cells #[.int .i64 ro, .slice A n c] 26))).alloc (.cells #[.int .i64 0, .slice none 0 0] 26)) 0
  have g1 := box_cell ((Bw.refl (w.alloc (.cells #[.int .i64 ro, .slice A n c] 26))).alloc (.cells #[.int .i64 0, .slice none 0 0] 26)) 1
  simp only [List.getElem?_toArray, List.getElem?_cons_zero, List.getElem?_cons_succ] at g0 g1
  have hR := heap_alloc_new (w.alloc (.cells #[.int .i64 ro, .slice A n c] 26)) (.cells #[.int .i64 0, .slice none 0 0] 26 (0, 0))
  rw [show (w.alloc (.cells #[.int .i64 ro, .slice A n c] 26)).heap.size = w.heap.size + 1 by simp] at hR
  have HMO := hid hm
  have HC := hid hc
  have hn128 := (meshOk_len hm).1
  have hln := r.len
  have HL0 := hid hln
  have hn1 : n ≤ 128 := by omega
  clear hm hn128 hln
  go_enter Try.func93, Try.ntmps93
  go_wp2_with fail
  generalize ((w.alloc (.cells #[.int .i64 ro, .slice A n c] 26)).alloc (.cells #[.int .i64 0, .slice none 0 0] 26)) = W1 at *
  refine (spec_l04Copy ro A n c l _ (r.to b0) (by omega)).mono ?_
  rintro e_ W2 ⟨X, y, rfl, ho, b1⟩
  have hy := FO.room ho
  have hRM : w.heap.size + 1 < W2.heap.size := by have h1 := blk_lt hR; have h2 := b1.size; omega
  have bX := Bw.box1 W2 (.cells #[.int .i64 ro, .slice X n y] 26)
  have hkM := heap_alloc_new W2 (.cells #[.int .i64 ro, .slice X n y] 26 (0, 0))
  replace g0 := pw_cell_below (b1.trans bX).out g0
  replace g1 := pw_cell_below (b1.trans bX).out g1
  replace hR := ((b1.trans bX).out.block _ (blk_lt hR)).trans hR
  have hoX := ho.to bX
  replace hoX := hoX.less (show w.heap.size ≤ _ by have := b0.size; omega)
  have HB := hid ((b0.trans b1).trans bX)
  have HMW := hid (show w.heap.size ≤ W2.heap.size from ((b0.trans b1)).size)
  clear b1 bX ho
  go_wp2_with fail
  generalize (W2.alloc (.cells #[.int .i64 ro, .slice X n y] 26)) = W3 at *
  refine (spec_MeshOk ro A n c l _ (r.to HB.out)).mono ?_
  rintro e_ W4 ⟨rfl, b1⟩
  rw [HMO.out]
  replace hR := (b1.out.block _ (blk_lt hR)).trans hR
  replace hkM := (b1.out.block _ (blk_lt hkM)).trans hkM
  replace hoX := hoX.to b1
  have m0 : W4.cell? ⟨W2.heap.size, 0, none⟩ = some (.int .i64 ro) := (blk_cell hkM 0).trans rfl
  have m1 : W4.cell? ⟨W2.heap.size, 1, none⟩ = some (.slice X n y) := (blk_cell hkM 1).trans rfl
  replace HB := hid (HB.out.trans b1)
  clear b1 g0 g1
  go_wp2_with fail
  refine (spec_l05First ro X n y l _ hoX.idR (meshOk_lvs HMO.out)).mono ?_
  rintro e_ W5 ⟨rfl, b1⟩
  have HR := hid ((b1.out.block _ (blk_lt hR)).trans hR)
  have HKM := hid ((b1.out.block _ (blk_lt hkM)).trans hkM)
  have HOX := hid (hoX.to b1)
  replace HB := hid (HB.out.trans b1)
  clear b1 m0 m1 hR hkM hoX
  go_wp2
  go_loopw [4] (fun v4 wr => ∃ (l' : List Ce) (X' : Option Addr) (n' y' : Nat), v4 = .int .i64 (unbal l') ∧ Hid (meshOk ro l' = true) ∧ n' ≤ y' ∧ Hid (FO wr w.heap.size 32 3 (.slice X' n' y') n' (idF l')) ∧ Hid (wr.heap[W2.heap.size]? = some (.cells #[.int .i64 ro, .slice X' n' y'] 26 (0, 0))) ∧ Hid (wr.heap[w.heap.size + 1]? = some (.cells #[.int .i64 0, .slice none 0 0] 26 (0, 0))) ∧ Hid (Bw w wr)) (fun _ wr => 200 - sliceLen (wr.cell? ⟨W2.heap.size, 1, none⟩))
  case atStart => exact ⟨l, X, n, y, rfl, HMO, hy, HOX, HKM, HR, HB⟩
  case round =>
    obtain ⟨l', X', n', y', rfl, hM', hy', hO', hK', hR', hB'⟩ := hrel
    have m0 : wr.cell? ⟨W2.heap.size, 0, none⟩ = some (.int .i64 ro) := (blk_cell hK'.out 0).trans rfl
    have m1 : wr.cell? ⟨W2.heap.size, 1, none⟩ = some (.slice X' n' y') := (blk_cell hK'.out 1).trans rfl
    have hl' := hO'.out.idR.len
    have hnn : n' ≤ 128 := by have := (meshOk_len hM'.out).1; omega
    by_cases hge : 0 ≤ unbal l'
    · obtain ⟨i, hi, hil, hun⟩ := firstUn_some l' l'.length 0 hge
      have hui : unbal l' = (i : Int) := hi
      have t1 : decide (unbal l' ≥ 0) = true := decide_eq_true hge
      have hlvs := (meshOk_lvs hM'.out).out
      have hl0 := hlvs i (by omega)
      have hl1 := hlvs (i + 1) (by omega)
      obtain ⟨j, hj⟩ : ∃ j : Nat, (if (gc l' i).l > (gc l' (i + 1)).l then i + 1 else i : Nat) = j := ⟨_, rfl⟩
      have hjl : j < n' ∧ (gc l' j).l < 4 := by
        split at hj <;> subst hj <;> (constructor <;> omega)
      have hok := meshOk_all hM'.out _ (gc_mem (show j < l'.length by omega))
      have HSP := hid (split_ok hM'.out (by omega) hjl.2)
      have HJ := hid hj
      have HOK := hid hok
      rw [hui] at t1 ⊢
      have HUI := hid hui
      clear hge hi hun hui hl0 hl1 hlvs hj hok
      go_wp2
      refine start_ (n := 6) (S := fun w' => w'.cell? ⟨W2.heap.size, 0, none⟩ = some (.int .i64 ro) ∧ w'.cell? ⟨W2.heap.size, 1, none⟩ = some (.slice X' n' y')) (ds := [5]) #[false, false, false, false, false, false] (by kernel_rfl) rfl rfl ⟨m0, m1⟩ (fun hHeld => ?_)
      refine take_ (i := 0) (N := (some 17)) (v := ?_) (a' := ?_) #[true, false, false, false, false, false] rfl rfl (by kernel_rfl) (fun _ _ _ h => h) (Or.inl ⟨by rfl, ?_⟩) hHeld ?_ ?_
      rotate_left
      · rintro w' ⟨s0, s1⟩
        go_simp
        with_reducible rfl
      rotate_left
      · simp only [Act.put, List.setIfInBounds_toArray, List.set_cons_zero, List.set_cons_succ, i64_w, i32_w]
        rfl
      refine take_ (i := 1) (N := (some 18)) (v := ?_) (a' := ?_) #[true, true, false, false, false, false] rfl rfl (by kernel_rfl) (fun _ _ _ h => h) (Or.inl ⟨by rfl, ?_⟩) hHeld ?_ ?_
      rotate_left
      · rintro w' ⟨s0, s1⟩
        go_simp
        with_reducible rfl
      rotate_left
      · simp only [Act.put, List.setIfInBounds_toArray, List.set_cons_zero, List.set_cons_succ, i64_w, i32_w]
        rfl
      refine pure_ (i := 2) (N := (some 19)) (v := ?_) (a' := ?_) #[true, true, true, false, false, false] rfl rfl (by kernel_rfl) (fun _ _ _ h => h) (Or.inl ⟨by rfl, ?_⟩) ?_ ?_
      rotate_left
      · intro w'
        go_simp
        with_reducible rfl
      rotate_left
      · simp only [Act.put, List.setIfInBounds_toArray, List.set_cons_zero, List.set_cons_succ, i64_w, i32_w]
        rfl
      clear hHeld
      have bD := Bw.drawn (a := wr) ⟨⟨1, rfl⟩⟩
      refine one_ (i := 3) (N := (some 20)) #[true, true, true, true, false, false] rfl rfl (by kernel_rfl) (by decide) (fun K hK => ?_)
      refine goes_ Try.func114 (by kernel_rfl) rfl #[.agg #[.int .i64 ro, .slice X' n' y'], .int .i64 (i : Int)] (by rfl) rfl rfl (by (try simp only [List.map_toArray, List.map_cons, List.map_nil]); first | done | rfl) ?_
      refine (spec_l05Coarser ro X' n' y' l' i _ (hO'.out.idR.to bD) (by omega)).mono ?_
      rintro e wa ⟨rfl, ba⟩
      refine ⟨_, rfl, ?_⟩
      rw [HJ.out]
      have bA := bD.trans ba
      refine hK.out _ _ ⟨pw_cell_below bA.out m0, pw_cell_below bA.out m1⟩ (fun _ => ?_)
      rename_i hJ_
      clear hJ_
      clear hK K
      refine norm_ (a' := ?_) ?_ ?_
      rotate_left
      · show Act.put _ (some 20) _ = _
        simp only [Act.put, List.setIfInBounds_toArray, List.set_cons_zero, List.set_cons_succ, i64_w, i32_w]
        rfl
      refine one_ (i := 4) (N := (some 21)) #[true, true, true, true, true, false] rfl rfl (by kernel_rfl) (by decide) (fun K hK => ?_)
      refine goes_ Try.func113 (by kernel_rfl) rfl #[.agg #[.int .i64 ro, .slice X' n' y'], .int .i64 (j : Int)] (by rfl) rfl rfl (by (try simp only [List.map_toArray, List.map_cons, List.map_nil]); first | done | rfl) ?_
      refine (spec_l05Split ro X' n' y' l' j _ (hO'.out.idR.to bA) hy' (by omega) hjl.1 HOK.out hjl.2).mono ?_
      rintro e wb ⟨X2, y2, rfl, o2, bb⟩
      refine ⟨_, rfl, ?_⟩
      have bB := bA.trans bb
      refine hK.out _ _ ⟨pw_cell_below bB.out m0, pw_cell_below bB.out m1⟩ (fun _ => ?_)
      rename_i hJ_
      clear hJ_
      clear hK K
      refine norm_ (a' := ?_) ?_ ?_
      rotate_left
      · show Act.put _ (some 21) _ = _
        simp only [Act.put, List.setIfInBounds_toArray, List.set_cons_zero, List.set_cons_succ, i64_w, i32_w]
        rfl
      have hk2 := (bB.out.block _ (blk_lt hK'.out)).trans hK'.out
      have hR2 := (bB.out.block _ (blk_lt hR'.out)).trans hR'.out
      have hy2 := FO.room o2
      have s0 := (blk_cell hk2 0).trans (show _ = some (Value.int .i64 ro) from rfl)
      have s1 := (blk_cell hk2 1).trans (show _ = some (Value.slice X' n' y') from rfl)
      have f0 := blk_frozen hk2 0
      have f1 := blk_frozen hk2 1
      have HF := hid (show ((wb.setCell ⟨W2.heap.size, 0, none⟩ (.int .i64 ro)).setCell ⟨W2.heap.size, 1, none⟩ (.slice X2 (n' + 1) y2)).heap[W2.heap.size]? = some (.cells #[.int .i64 ro, .slice X2 (n' + 1) y2] 26 (0, 0)) from blk_set (blk_set hk2 0 _) 1 _)
      have CF : Wi wb ((wb.setCell ⟨W2.heap.size, 0, none⟩ (.int .i64 ro)).setCell ⟨W2.heap.size, 1, none⟩ (.slice X2 (n' + 1) y2)) W2.heap.size (W2.heap.size + 1) := ((Wi.refl wb _ _).trans (Wi.put _ _ 0 _)).trans (Wi.put _ _ 1 _)
      have HOF := hid (FO.less (base' := w.heap.size) (FO.put o2 hk2 (by decide) CF) (by have h1 := bA.size; have h2 := hB'.out.size; omega))
      have HBF := hid ((hB'.out.trans bB).then_wi CF HMW.out)
      have HRF := hid ((CF.block _ (blk_lt hR2) (by omega)).trans hR2)
      clear CF hk2 hR2 o2 bb bB bA bD ba
      refine last_ (i := 5) (N := none) #[true, true, true, true, true, true] rfl rfl (by kernel_rfl) (by decide) (fun K hK => ?_)
      refine skip_ (w1 := ?_) (by rfl) rfl ?_ ?_
      rotate_left
      · go_simp
        rfl
      refine hK.out _ _ ?_
      clear hK K
      refine done_ (by kernel_rfl) ?_
      clear s0 s1 f0 f1
      generalize hWZ : ((wb.setCell ⟨W2.heap.size, 0, none⟩ (.int .i64 ro)).setCell ⟨W2.heap.size, 1, none⟩ (.slice X2 (n' + 1) y2)) = wz at *
      clear hWZ m0 m1
      have m0 : wz.cell? ⟨W2.heap.size, 0, none⟩ = some (.int .i64 ro) := (blk_cell HF.out 0).trans rfl
      have m1 : wz.cell? ⟨W2.heap.size, 1, none⟩ = some (.slice X2 (n' + 1) y2) := (blk_cell HF.out 1).trans rfl
      go_wp2_with fail
      refine (spec_l05First ro X2 (n' + 1) y2 (splitC l' j) _ HOF.out.idR (meshOk_lvs HSP.out)).mono ?_
      rintro e_ wy ⟨rfl, b1⟩
      have hl2 := HOF.out.idR.len
      have hn2 : n' + 1 ≤ 128 := by have := (meshOk_len HSP.out).1; omega
      have HF2 := hid ((b1.out.block _ (blk_lt HF.out)).trans HF.out)
      have HR2 := hid ((b1.out.block _ (blk_lt HRF.out)).trans HRF.out)
      have HO2 := hid (HOF.out.to b1)
      have HB2 := hid (HBF.out.trans b1)
      have hme : sliceLen (wr.cell? ⟨W2.heap.size, 1, none⟩) = n' := by rw [(blk_cell hK'.out 1).trans (show _ = some (Value.slice X' n' y') from rfl)]; rfl
      have hme2 : sliceLen (wy.cell? ⟨W2.heap.size, 1, none⟩) = n' + 1 := by rw [(blk_cell HF2.out 1).trans (show _ = some (Value.slice X2 (n' + 1) y2) from rfl)]; rfl
      have HME := hid (show 200 - (n' + 1) < 200 - n' by omega)
      clear b1 hl2 m0 m1
      go_wp2
      go_roundw
      case rel => exact ⟨_, _, _, _, rfl, HSP, hy2, HO2, HF2, HR2, HB2⟩
      case measure => rw [hme, hme2]; exact HME.out
    · have t1 : decide (unbal l' ≥ 0) = false := decide_eq_false hge
      have HBAL := hid (show isBal ro l' = true by rw [isBal, hM'.out, Bool.true_and]; exact decide_eq_true (by omega))
      have hRk := hR'.out
      have ho := hO'.out
      have bb := hB'.out
      have s0 := (blk_cell hRk 0).trans (show _ = some (Value.int .i64 0) from rfl)
      have s1 := (blk_cell hRk 1).trans (show _ = some (Value.slice none 0 0) from rfl)
      have f0 := blk_frozen hRk 0
      have f1 := blk_frozen hRk 1
      have HF := hid (show ((wr.setCell ⟨w.heap.size + 1, 0, none⟩ (.int .i64 ro)).setCell ⟨w.heap.size + 1, 1, none⟩ (.slice X' n' y')).heap[w.heap.size + 1]? = some (.cells #[.int .i64 ro, .slice X' n' y'] 26 (0, 0)) from blk_set (blk_set hRk 0 _) 1 _)
      have CF : Wi wr ((wr.setCell ⟨w.heap.size + 1, 0, none⟩ (.int .i64 ro)).setCell ⟨w.heap.size + 1, 1, none⟩ (.slice X' n' y')) (w.heap.size + 1) (w.heap.size + 1 + 1) := ((Wi.refl wr _ _).trans (Wi.put _ _ 0 _)).trans (Wi.put _ _ 1 _)
      have HOF := hid (FO.put ho hRk (by decide) CF)
      have HBF := hid (bb.then_wi CF (by omega))
      clear CF hRk ho bb
      clear hge
      go_wp2
      refine bodyPost_ret (results_cell_row rfl _ _ (w.heap.size + 1) 26 #[.int .i64 ro, .slice X' n' y'] (0, 0) _ rfl HF.out Try.underlying26 rfl (by kernel_rfl)) rfl ?_
      exact ⟨_, _, _, _, rfl, HOF.out, hy', HBAL.out, HBF.out⟩
end Go.Proofs.Ytaemkneppphkmaa.U
