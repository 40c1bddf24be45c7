
/- A state drawn. -/
import Derived.Test.YtaidbdogolhnjaaG9
import Derived.Test.YtaidbdogolhnjaaG22
set_option linter.unusedVariables false
set_option linter.unusedSimpArgs false
namespace Go.Proofs.Ytaidbdogolhnjaa.U
open Go.RowKit Go.Lib Go.Proofs.YtaidbdogolhnjaaW.PrintWords

open Go.Proofs.YtaidbdogolhnjaaW.PrintLast Go.Proofs.YtaidbdogolhnjaaW.PrintMore
/-- the drawn cells: masses and tracers -/
structure DC (ms ts : List Int) (i : Nat) : Prop where
  lm : ms.length = i
  lt : ts.length = i
  z : ∀ p ∈ ms.zip ts, (0 ≤ p.1 ∧ p.1 ≤ 19999) ∧ (0 ≤ p.2 ∧ p.2 ≤ 1000 * p.1)
theorem DC.app {ms ts : List Int} {i : Nat} {x q : Int} (h : DC ms ts i) (hx : 0 ≤ x ∧ x ≤ 19999) (hq : 0 ≤ q ∧ q ≤ 1000 * x) : DC (ms ++ [x]) (ts ++ [q]) (i + 1) := by
  refine ⟨by rw [List.length_append, h.lm]; rfl, by rw [List.length_append, h.lt]; rfl, fun p hp => ?_⟩
  rw [List.zip_append (by rw [h.lm, h.lt])] at hp
  rcases List.mem_append.1 hp with h1 | h1
  · exact h.z p h1
  · simp at h1
    subst h1
    exact ⟨hx, hq⟩
theorem DC.at {ms ts : List Int} {n i : Nat} (h : DC ms ts n) (hi : i < n) : (0 ≤ rd ms (i : Int) ∧ rd ms (i : Int) ≤ 19999) ∧ (0 ≤ rd ts (i : Int) ∧ rd ts (i : Int) ≤ 1000 * rd ms (i : Int)) := by
  have h1 : i < ms.length := by rw [h.lm]; exact hi
  have h2 : i < ts.length := by rw [h.lt]; exact hi
  have h3 := h.z (ms[i], ts[i]) (by
    have : (ms.zip ts)[i]'(by rw [List.length_zip]; omega) = (ms[i], ts[i]) := List.getElem_zip
    rw [← this]
    exact List.getElem_mem _)
  rw [rd_nat, rd_nat, List.getD_eq_getElem?_getD, List.getD_eq_getElem?_getD, List.getElem?_eq_getElem h1, List.getElem?_eq_getElem h2]
  exact h3
theorem DC.cells {ms ts : List Int} {n : Nat} (h : DC ms ts n) : ∀ (d j : Nat), j + d ≤ n → cellsOk ms ts d j = true
  | 0, j, _ => rfl
  | d + 1, j, hd => by
    have h1 := h.at (i := j) (by omega)
    simp only [cellsOk, Bool.and_eq_true, inR_iff]
    exact ⟨⟨⟨by omega, by omega⟩, by omega, by omega⟩, h.cells d (j + 1) (by omega)⟩
theorem sum_le_all : ∀ (l : List Int), (∀ x ∈ l, 0 ≤ x ∧ x ≤ 19999) → l.sum ≤ 19999 * l.length
  | [], _ => by simp
  | x :: xs, h => by
    have h1 := sum_le_all xs (fun y hy => h y (List.mem_cons_of_mem _ hy))
    have h2 := h x (List.mem_cons_self ..)
    rw [List.sum_cons, List.length_cons]
    push_cast
    omega
theorem Apart.old {w : World} {base t k n : Nat} {u v : Value} {F : List Int} (h : ∀ q, u.ownBlock = some q → q < base) (o : FO w base t k v n F) : Apart u v := by
  rcases own_base' o.out with e | ⟨q, e, hq⟩
  · by_cases h0 : u.ownBlock = none
    · exact .inl h0
    · exact .inr (by rw [e]; exact h0)
  · refine .inr fun e2 => ?_
    have := h q (by rw [e2, e])
    omega
theorem staOk_mesh {ro : Int} {l : List Ce} (h : isBal ro l = true) : l.length ≤ 128 := by
  simp only [isBal, Bool.and_eq_true] at h
  exact (meshOk_len h.1).1
/-- a drawn state -/
structure DrawnS (s : Sta) : Prop where
  ok : staOk s.ro s.lv s.ms s.ts s.bd = true
  ro : 1 ≤ s.ro ∧ s.ro ≤ 3
  n : s.lv.length ≤ 48
  cs : DC s.ms s.ts s.lv.length
theorem DrawnS.of {ro : Int} {l : List Ce} {ms ts bd : List Int} (hb : isBal ro l = true) (hr : 1 ≤ ro ∧ ro ≤ 3) (hc : DC ms ts l.length) (hl : (bd.length : Int) = ro) (hx : ∀ x ∈ bd, 0 ≤ x ∧ x ≤ 14997) : DrawnS ⟨ro, l, ms, ts, bd⟩ := by
  have hn : l.length ≤ 48 := by
    simp only [isBal, Bool.and_eq_true] at hb
    have h1 := hb.1
    unfold meshOk at h1
    cases he : meshEnd l 0 with
    | none => rw [he] at h1; cases h1
    | some a =>
      rw [he, endIs, Bool.and_eq_true, inR_iff, decide_eq_true_iff] at h1
      have := meshEnd_len l 0 a he
      omega
  have hm : ∀ x ∈ ms, 0 ≤ x ∧ x ≤ 19999 := fun x hx2 => by
    obtain ⟨i, hi, rfl⟩ := List.getElem_of_mem hx2
    have := (hc.at (i := i) (by rw [← hc.lm]; exact hi)).1
    rwa [rd_nat, List.getD_eq_getElem?_getD, List.getElem?_eq_getElem hi] at this
  refine ⟨?_, hr, hn, hc⟩
  simp only [staOk, hasC, Bool.and_eq_true, decide_eq_true_iff, hb, true_and]
  refine ⟨⟨⟨⟨⟨hc.lm, hc.lt⟩, hl⟩, ?_⟩, hc.cells _ _ (by omega)⟩, ?_⟩
  · rw [List.all_eq_true]
    intro x hx3
    have := hx x hx3
    exact inR_iff.2 (by omega)
  · have h1 := sum_le_all ms hm
    have h2 := hc.lm
    omega
set_option maxHeartbeats 16000000 in
set_option maxRecDepth 100000 in
theorem l07State (w0 : World) (g : Nat) (w : World) (hC : Cur w0 w g) :
    Calls Try.prog 24 #[.pointer (some ⟨g, 0, none⟩)] w fun e w' => ∃ x s, e = .returned x ∧ DrawnS s ∧ StO w' (g + 1) w'.heap.size x s ∧ Cur w0 w' g ∧ w.grownBy w' (some g) := by
  have b0 := Bw.box1 w (.cells #[.int .i64 0, .slice none 0 0, .slice none 0 0, .slice none 0 0, .slice none 0 0] 29)
  have hR := heap_alloc_new w (.cells #[.int .i64 0, .slice none 0 0, .slice none 0 0, .slice none 0 0, .slice none 0 0] 29 (0, 0))
  have hC1 := hC.bw b0
  have hRg : w.heap.size ≠ g := by have := hC.at_lt; omega
  have hgw := hC.at_lt
  go_enter Try.func24, Try.ntmps24
  go_wp2_with fail
  generalize (w.alloc (.cells #[.int .i64 0, .slice none 0 0, .slice none 0 0, .slice none 0 0, .slice none 0 0] 29)) = W1 at *
  refine (l05Mesh w0 g _ hC1).mono ?_
  rintro e_ W2 ⟨ro, X, n, y, l, rfl, hbal, hro, ho, hC2, hG2⟩
  have hR2 := blk_grown hR hG2 (fun e => hRg (Option.some.inj e))
  have bM := Bw.box1 W2 (.cells #[.int .i64 ro, .slice X n y] 26)
  have hM := heap_alloc_new W2 (.cells #[.int .i64 ro, .slice X n y] 26 (0, 0))
  have bS := Bw.box1 (W2.alloc (.cells #[.int .i64 ro, .slice X n y] 26)) (.cells #[.int .i64 ro, .slice X n y, .slice none 0 0, .slice none 0 0, .slice none 0 0] 29)
  have hS := heap_alloc_new (W2.alloc (.cells #[.int .i64 ro, .slice X n y] 26)) (.cells #[.int .i64 ro, .slice X n y, .slice none 0 0, .slice none 0 0, .slice none 0 0] 29 (0, 0))
  rw [show (W2.alloc (.cells #[.int .i64 ro, .slice X n y] 26)).heap.size = W2.heap.size + 1 by simp] at hS
  have bMS := bM.trans bS
  have hRW : w.heap.size < W2.heap.size := blk_lt hR2
  have HSK := hid (show SK w0 w g w.heap.size W2.heap.size (W2.heap.size + 1) (W2.heap.size + 2) (.slice X n y) from ⟨hC.below.size, by omega, by omega, by omega, by omega, by omega, hRg, by omega, by omega, fun q hq => by have := own_lt ho.out q hq; omega⟩)
  have HSD := hid (show SD w0 w ((W2.alloc (.cells #[.int .i64 ro, .slice X n y] 26)).alloc (.cells #[.int .i64 ro, .slice X n y, .slice none 0 0, .slice none 0 0, .slice none 0 0] 29)) g w.heap.size W2.heap.size (W2.heap.size + 1) (W2.heap.size + 2) (fun _ => 0) ro X n y l (.slice none 0 0) (.slice none 0 0) (.slice none 0 0) [] [] [] from
    ⟨hC2.bw bMS, hS, (bS.out.block _ (blk_lt hM)).trans hM, (bMS.out.block _ (blk_lt hR2)).trans hR2, ho.to bMS, ⟨FO.nil _ _ _ _, fun b hb => by cases hb⟩, ⟨FO.nil _ _ _ _, fun b hb => by cases hb⟩, ⟨FO.nil _ _ _ _, fun b hb => by cases hb⟩,
      grown_cur hC (hC2.bw bMS) (by have h1 := b0.size; have h2 := hG2.size; have h3 := bMS.size; omega) (fun b hb hne => (bMS.out.block b (by have h1 := b0.size; have h2 := hG2.size; omega)).trans ((hG2.block b (by have h1 := b0.size; omega) (fun e => hne (Option.some.inj e))).trans (b0.out.block b hb))), by simp⟩)
  have HBAL := hid hbal
  have HRO := hid hro
  have hl := ho.idR.len
  have HLN := hid hl
  have hn48 : n ≤ 1000 := by
    have := staOk_mesh hbal
    omega
  have g0 : (W2.alloc (.cells #[.int .i64 ro, .slice X n y] 26)).cell? ⟨W2.heap.size, 0, none⟩ = some (.int .i64 ro) := (blk_cell hM 0).trans rfl
  have g1 : (W2.alloc (.cells #[.int .i64 ro, .slice X n y] 26)).cell? ⟨W2.heap.size, 1, none⟩ = some (.slice X n y) := (blk_cell hM 1).trans rfl
  clear b0 hR hC1 hG2 hR2 bM hM bS hS bMS hbal hl ho hC2
  go_wp2
  generalize ((W2.alloc (.cells #[.int .i64 ro, .slice X n y] 26)).alloc (.cells #[.int .i64 ro, .slice X n y, .slice none 0 0, .slice none 0 0, .slice none 0 0] 29)) = W3 at *
  clear g0 g1
  go_loopw [5] (fun v5 wr => ∃ (r : Nat) (κ : Nat → Nat) (bv : Value) (bd : List Int), (r : Int) ≤ ro ∧ v5 = .int .i64 r ∧ Hid (bd.length = r) ∧ Hid (∀ x ∈ bd, 0 ≤ x ∧ x ≤ 14997) ∧ Hid (SD w0 w wr g w.heap.size W2.heap.size (W2.heap.size + 1) (W2.heap.size + 2) κ ro X n y l (.slice none 0 0) (.slice none 0 0) bv [] [] bd)) (fun v5 _ => 4 - (intOf v5).toNat)
  case atStart => exact ⟨0, _, _, [], by omega, rfl, hid rfl, hid (by simp), HSD⟩
  case round =>
    obtain ⟨r, κ, bv, bd, hr, rfl, hbl, hbx, hSD⟩ := hrel
    have g0 : wr.cell? ⟨W2.heap.size, 0, none⟩ = some (.int .i64 ro) := (blk_cell hSD.out.me 0).trans rfl
    obtain ⟨Xb, yb, rfl, _, _⟩ := hSD.out.b.o.reads
    have hbd4 : bd.length ≤ 4 := by have := hbl.out; omega
    by_cases hlt : (r : Int) < ro
    · have t1 : decide ((r : Int) < ro) = true := decide_eq_true hlt
      have c4 : wr.cell? ⟨W2.heap.size + 1, 4, none⟩ = some (.slice Xb bd.length yb) := (blk_cell hSD.out.st 4).trans rfl
      have bD := Bw.drawn (a := wr) ⟨⟨1, rfl⟩⟩
      have hD1 := hSD.out.bw HSK.out hC bD
      go_wp2
      refine start_ (n := 11) (S := fun w' => w'.cell? ⟨W2.heap.size + 1, 4, none⟩ = some (.slice Xb bd.length yb)) (ds := [8, 10]) #[false, false, false, false, false, false, false, false, false, false, false] (by kernel_rfl) rfl rfl c4 (fun hHeld => ?_)
      refine pure_ (i := 0) (N := (some 19)) (v := ?_) (a' := ?_) #[true, false, false, false, false, false, false, false, false, false, false] rfl rfl (by kernel_rfl) (fun _ _ _ h => h) (Or.inl ⟨by rfl, ?_⟩) ?_ ?_
      rotate_left
      · intro w'
        go_simp
        with_reducible rfl
      rotate_left
      · simp only [Act.put, List.setIfInBounds_toArray, List.set_cons_zero, List.set_cons_succ, i64_w, i32_w]
        rfl
      refine take_ (i := 1) (N := (some 20)) (v := ?_) (a' := ?_) #[true, true, false, false, false, false, false, false, false, false, false] rfl rfl (by kernel_rfl) (fun _ _ _ h => h) (Or.inl ⟨by rfl, ?_⟩) hHeld ?_ ?_
      rotate_left
      · intro w' s0
        go_simp
        with_reducible rfl
      rotate_left
      · simp only [Act.put, List.setIfInBounds_toArray, List.set_cons_zero, List.set_cons_succ, i64_w, i32_w]
        rfl
      refine pure_ (i := 2) (N := (some 21)) (v := ?_) (a' := ?_) #[true, true, true, false, false, false, false, false, false, false, false] rfl rfl (by kernel_rfl) (fun _ _ _ h => h) (Or.inl ⟨by rfl, ?_⟩) ?_ ?_
      rotate_left
      · intro w'
        go_simp
        with_reducible rfl
      rotate_left
      · simp only [Act.put, List.setIfInBounds_toArray, List.set_cons_zero, List.set_cons_succ, i64_w, i32_w]
        rfl
      refine pure_ (i := 4) (N := (some 23)) (v := ?_) (a' := ?_) #[true, true, true, false, true, false, false, false, false, false, false] rfl rfl (by kernel_rfl) (fun _ _ _ h => h) (Or.inl ⟨by rfl, ?_⟩) ?_ ?_
      rotate_left
      · intro w'
        go_simp
        with_reducible rfl
      rotate_left
      · simp only [Act.put, List.setIfInBounds_toArray, List.set_cons_zero, List.set_cons_succ, i64_w, i32_w]
        rfl
      clear hHeld c4
      refine one_ (i := 3) (N := (some 22)) #[true, true, true, true, true, false, false, false, false, false, false] rfl rfl (by kernel_rfl) (by decide) (fun K hK => ?_)
      refine goes_ Try.func26 (by kernel_rfl) rfl #[.pointer (some ⟨g, 0, none⟩), .int .i64 4] (by rfl) rfl rfl (by (try simp only [List.map_toArray, List.map_cons, List.map_nil]); first | done | rfl) ?_
      refine (l01Below w0 g 4 _ hD1.cur).mono ?_
      rintro e wa ⟨⟨x, rfl, x1, x2⟩, hCa, hGa⟩
      refine ⟨_, rfl, ?_⟩
      replace x2 := x2 (by omega)
      have hD2 := hD1.draw HSK.out hC hCa hGa
      refine hK.out _ _ ((blk_cell hD2.st 4).trans rfl) (fun _ => ?_)
      rename_i hJ_
      clear hJ_
      clear hK K
      refine norm_ (a' := ?_) ?_ ?_
      rotate_left
      · show Act.put _ (some 22) _ = _
        simp only [Act.put, List.setIfInBounds_toArray, List.set_cons_zero, List.set_cons_succ, i64_w, i32_w]
        rfl
      refine one_ (i := 5) (N := (some 24)) #[true, true, true, true, true, true, false, false, false, false, false] rfl rfl (by kernel_rfl) (by decide) (fun K hK => ?_)
      refine goes_ Try.func26 (by kernel_rfl) rfl #[.pointer (some ⟨g, 0, none⟩), .int .i64 5000] (by rfl) rfl rfl (by (try simp only [List.map_toArray, List.map_cons, List.map_nil]); first | done | rfl) ?_
      refine (l01Below w0 g 5000 _ hD2.cur).mono ?_
      rintro e wb ⟨⟨z, rfl, z1, z2⟩, hCb, hGb⟩
      refine ⟨_, rfl, ?_⟩
      replace z2 := z2 (by omega)
      have hD3 := hD2.draw HSK.out hC hCb hGb
      refine hK.out _ _ ((blk_cell hD3.st 4).trans rfl) (fun _ => ?_)
      rename_i hJ_
      clear hJ_
      clear hK K
      refine norm_ (a' := ?_) ?_ ?_
      rotate_left
      · show Act.put _ (some 24) _ = _
        simp only [Act.put, List.setIfInBounds_toArray, List.set_cons_zero, List.set_cons_succ, i64_w, i32_w]
        rfl
      have hxz : 0 ≤ x * z ∧ x * z ≤ 14997 := by
        have h1 : x * z ≤ 3 * z := Int.mul_le_mul_of_nonneg_right (by omega) z1
        have h2 : 0 ≤ x * z := Int.mul_nonneg x1 z1
        omega
      obtain ⟨u, hu⟩ : ∃ u, x * z = u := ⟨_, rfl⟩
      have e3 : IntKind.i64.wrap (x * z) = u := (i64w (by omega) (by omega)).trans hu
      rw [hu] at hxz
      have HXZ := hid hxz
      have EU := hid hu
      clear hu
      refine pure_ (i := 6) (N := (some 25)) (v := ?_) (a' := ?_) #[true, true, true, true, true, true, true, false, false, false, false] rfl rfl (by kernel_rfl) (fun _ _ _ h => h) (Or.inl ⟨by rfl, ?_⟩) ?_ ?_
      rotate_left
      · intro w'
        go_simp
        with_reducible rfl
      rotate_left
      · simp only [Act.put, List.setIfInBounds_toArray, List.set_cons_zero, List.set_cons_succ, i64_w, i32_w]
        rfl
      have bA := Bw.box1 wb (.cells #[.int .i64 u] 3)
      clear hxz
      refine one_ (i := 7) (N := (some 26)) #[true, true, true, true, true, true, true, true, false, false, false] rfl rfl (by kernel_rfl) (by decide) (fun K hK => ?_)
      refine value_ (w1 := ?_) (v := ?_) (by rfl) rfl ?_ ?_
      rotate_left 2
      · go_simp
        constructor
        · rfl
        · rfl
      refine hK.out _ _ (pw_cell_below bA.out ((blk_cell hD3.st 4).trans rfl)) (fun _ => ?_)
      rename_i hJ_
      clear hJ_
      clear hK K
      refine norm_ (a' := ?_) ?_ ?_
      rotate_left
      · show Act.put _ (some 26) _ = _
        simp only [Act.put, List.setIfInBounds_toArray, List.set_cons_zero, List.set_cons_succ, i64_w, i32_w]
        rfl
      refine last_ (i := 8) (N := (some 27)) #[true, true, true, true, true, true, true, true, true, false, false] rfl rfl (by kernel_rfl) (by decide) (fun K hK => ?_)
      refine step_append_cells (w0 := wb) (W2.heap.size + 2) (by rfl) (.tmp 20) (.tmp 26) 27 3 (.int .i64 0) 1 8 rfl Try.underlying27 info_int rfl (by decide) (by decide) (.slice Xb bd.length yb) bd.length (nums .i64 bd) [.int .i64 (u)] rfl rfl rfl (by simp [Value.oneCell']) hD3.b.o.out (Below.refl _ _) hD3.sz (by omega) ?_
      intro v1 wd od hBd hgd had
      have hDz := hD3.app_b HSK.out hC (x := u) od hgd had
      obtain ⟨X1, y1, hv1, _, _⟩ := hDz.b.o.reads
      rw [List.length_append] at hv1
      simp only [List.length_cons, List.length_nil, Nat.zero_add] at hv1
      subst hv1
      have hst := blk_grown hD3.st hgd (own_ne hD3.b.o.out hD3.st (by decide))
      refine hK.out _ _ ?_
      clear hK K
      refine norm_ (a' := ?_) ?_ ?_
      rotate_left
      · show Act.put _ (some 27) _ = _
        simp only [Act.put, List.setIfInBounds_toArray, List.set_cons_zero, List.set_cons_succ, i64_w, i32_w]
        rfl
      refine pure_ (i := 9) (N := (some 28)) (v := ?_) (a' := ?_) #[true, true, true, true, true, true, true, true, true, true, false] rfl rfl (by kernel_rfl) (fun _ _ _ h => h) (Or.inl ⟨by rfl, ?_⟩) ?_ ?_
      rotate_left
      · intro w'
        go_simp
        with_reducible rfl
      rotate_left
      · simp only [Act.put, List.setIfInBounds_toArray, List.set_cons_zero, List.set_cons_succ, i64_w, i32_w]
        rfl
      refine last_ (i := 10) (N := none) #[true, true, true, true, true, true, true, true, true, true, true] rfl rfl (by kernel_rfl) (by decide) (fun K hK => ?_)
      have s4 := (blk_cell hst 4).trans (show _ = some (Value.slice Xb bd.length yb) from rfl)
      have f4 := blk_frozen hst 4
      have HDZ := hid hDz
      clear hst hDz hD3 hD2 hD1 hgd had od hBd bA hCa hCb hGa hGb bD
      refine skip_ (w1 := ?_) (by rfl) rfl ?_ ?_
      rotate_left
      · go_simp
        rfl
      refine hK.out _ _ ?_
      clear hK K
      refine done_ (by kernel_rfl) ?_
      clear s4 f4 e3
      go_wp2
      go_roundw
      case rel => exact ⟨r + 1, _, _, bd ++ [u], by omega, by go_num, hid (by rw [List.length_append, hbl.out]; rfl), hid (fun q hq => by rcases List.mem_append.1 hq with h | h; exact hbx.out q h; rw [List.mem_singleton.1 h]; exact HXZ.out), HDZ⟩
      case measure => simp [intOf]; omega
    · have hrr : (r : Int) = ro := by omega
      have t1 : decide ((r : Int) < ro) = false := decide_eq_false hlt
      have HRR := hid (show (bd.length : Int) = ro by rw [hbl.out]; exact hrr)
      have hD0 := hSD.out
      go_wp2_with fail
      refine (l01Below w0 g 20000 _ hD0.cur).mono ?_
      rintro e_ w4 ⟨⟨dp, rfl, d1, d2⟩, hC4, hG4⟩
      replace d2 := d2 (by omega)
      have ed : IntKind.i64.wrap (1 + dp) = 1 + dp := i64w (by omega) (by omega)
      have hdp : 1 ≤ 1 + dp ∧ 1 + dp ≤ 20000 := by omega
      have HSD4 := hid (hD0.draw HSK.out hC hC4 hG4)
      clear hC4 hG4 hD0 g0
      go_wp2
      go_loopw [7] (fun v7 wr => ∃ (i : Nat) (κ : Nat → Nat) (mv tv : Value) (ms ts : List Int), i ≤ n ∧ v7 = .int .i64 i ∧ Hid (DC ms ts i) ∧ Hid (SD w0 w wr g w.heap.size W2.heap.size (W2.heap.size + 1) (W2.heap.size + 2) κ ro X n y l mv tv (.slice Xb bd.length yb) ms ts bd)) (fun v7 _ => n - (intOf v7).toNat)
      case atStart => exact ⟨0, _, _, _, [], [], by omega, rfl, hid ⟨rfl, rfl, by simp⟩, HSD4⟩
      case round =>
        obtain ⟨i, κ2, mv, tv, ms, ts, hi, rfl, hcs, hSD2⟩ := hrel
        clear ed
        have g1 : wr.cell? ⟨W2.heap.size, 1, none⟩ = some (.slice X n y) := (blk_cell hSD2.out.me 1).trans rfl
        obtain ⟨Xm, ym, rfl, _, _⟩ := hSD2.out.m.o.reads
        obtain ⟨Xt, yt, rfl, _, _⟩ := hSD2.out.t.o.reads
        have hmsl : ms.length ≤ 1000 := by have := hcs.out.lm; omega
        have htsl : ts.length ≤ 1000 := by have := hcs.out.lt; omega
        by_cases hin : i < n
        · have u1 : decide ((i : Int) < (n : Int)) = true := decide_eq_true (by omega)
          go_wp2_with fail
          refine (l01Below w0 g (1 + dp) _ hSD2.out.cur).mono ?_
          rintro e_ wp ⟨⟨x, rfl, hx1, hx2⟩, hCp, hGp⟩
          replace hx2 : x ≤ 19999 := by have := hx2 (by omega); omega
          have hDp := hSD2.out.draw HSK.out hC hCp hGp
          clear g1
          go_wp2_with fail
          refine (l01Once w0 g 6 _ hDp.cur).mono ?_
          rintro e_ wx ⟨⟨ob, rfl⟩, hCx, hGx⟩
          have hD := hDp.draw HSK.out hC hCx hGx
          clear hCp hGp hCx hGx hDp
          cases ob with
          | false =>
            have c2 : wx.cell? ⟨W2.heap.size + 1, 2, none⟩ = some (.slice Xm ms.length ym) := (blk_cell hD.st 2).trans rfl
            have bL := Bw.box1 wx (.cells #[.int .i64 x] 3)
            have c2L := pw_cell_below bL.out c2
            have HD := hid hD
            clear hD
            go_upto_region 15 with (at_builtin; refine print_append_num (w0 := wx) (W2.heap.size + 2) rfl _ _ 27 3 .i64 8 rfl Try.underlying27 info_int (by omega) (.slice Xm ms.length ym) ms x rfl rfl HD.out.m.o.out (Below.refl _ _) HD.out.sz (by omega) ?_; intro v1 wd od hBd hgd had; have hDz := HD.out.app_m HSK.out hC (x := x) (by rw [nums_append, List.length_append] at od; exact od) hgd had; obtain ⟨X1, y1, hv1, _, _⟩ := hDz.m.o.reads; rw [List.length_append] at hv1; simp only [List.length_cons, List.length_nil, Nat.zero_add] at hv1; subst hv1; have hst := blk_grown HD.out.st hgd (own_ne HD.out.m.o.out HD.out.st (by decide)); have s2 := (blk_cell hst 2).trans (show _ = some (Value.slice Xm ms.length ym) from rfl); have f2 := blk_frozen hst 2; have HDM := hid hDz; clear hDz hst hgd had od hBd c2 c2L bL)
            generalize hWM : (wd.setCell ⟨W2.heap.size + 1, 2, none⟩ (.slice X1 (ms.length + 1) y1)) = wm at *
            clear hWM s2 f2
            have c3 : wm.cell? ⟨W2.heap.size + 1, 3, none⟩ = some (.slice Xt ts.length yt) := (blk_cell HDM.out.st 3).trans rfl
            have bD := Bw.drawn (a := wm) ⟨⟨1, rfl⟩⟩
            have hD1 := HDM.out.bw HSK.out hC bD
            refine start_ (n := 15) (S := fun w' => w'.cell? ⟨W2.heap.size + 1, 3, none⟩ = some (.slice Xt ts.length yt)) (ds := [12, 14]) #[false, false, false, false, false, false, false, false, false, false, false, false, false, false, false] (by kernel_rfl) rfl rfl c3 (fun hHeld => ?_)
            have ex1 : IntKind.i64.wrap (x + 1) = x + 1 := i64w (by omega) (by omega)
            refine pure_ (i := 0) (N := (some 52)) (v := ?_) (a' := ?_) #[true, false, false, false, false, false, false, false, false, false, false, false, false, false, false] rfl rfl (by kernel_rfl) (fun _ _ _ h => h) (Or.inl ⟨by rfl, ?_⟩) ?_ ?_
            rotate_left
            · intro w'
              go_simp
              with_reducible rfl
            rotate_left
            · simp only [Act.put, List.setIfInBounds_toArray, List.set_cons_zero, List.set_cons_succ, i64_w, i32_w]
              rfl
            refine take_ (i := 1) (N := (some 53)) (v := ?_) (a' := ?_) #[true, true, false, false, false, false, false, false, false, false, false, false, false, false, false] rfl rfl (by kernel_rfl) (fun _ _ _ h => h) (Or.inl ⟨by rfl, ?_⟩) hHeld ?_ ?_
            rotate_left
            · intro w' s0
              go_simp
              with_reducible rfl
            rotate_left
            · simp only [Act.put, List.setIfInBounds_toArray, List.set_cons_zero, List.set_cons_succ, i64_w, i32_w]
              rfl
            refine pure_ (i := 2) (N := (some 54)) (v := ?_) (a' := ?_) #[true, true, true, false, false, false, false, false, false, false, false, false, false, false, false] rfl rfl (by kernel_rfl) (fun _ _ _ h => h) (Or.inl ⟨by rfl, ?_⟩) ?_ ?_
            rotate_left
            · intro w'
              go_simp
              with_reducible rfl
            rotate_left
            · simp only [Act.put, List.setIfInBounds_toArray, List.set_cons_zero, List.set_cons_succ, i64_w, i32_w]
              rfl
            refine pure_ (i := 3) (N := (some 55)) (v := ?_) (a' := ?_) #[true, true, true, true, false, false, false, false, false, false, false, false, false, false, false] rfl rfl (by kernel_rfl) (fun _ _ _ h => h) (Or.inl ⟨by rfl, ?_⟩) ?_ ?_
            rotate_left
            · intro w'
              go_simp
              with_reducible rfl
            rotate_left
            · simp only [Act.put, List.setIfInBounds_toArray, List.set_cons_zero, List.set_cons_succ, i64_w, i32_w]
              rfl
            refine pure_ (i := 6) (N := (some 58)) (v := ?_) (a' := ?_) #[true, true, true, true, false, false, true, false, false, false, false, false, false, false, false] rfl rfl (by kernel_rfl) (fun _ _ _ h => h) (Or.inl ⟨by rfl, ?_⟩) ?_ ?_
            rotate_left
            · intro w'
              go_simp
              with_reducible rfl
            rotate_left
            · simp only [Act.put, List.setIfInBounds_toArray, List.set_cons_zero, List.set_cons_succ, i64_w, i32_w]
              rfl
            refine pure_ (i := 7) (N := (some 59)) (v := ?_) (a' := ?_) #[true, true, true, true, false, false, true, true, false, false, false, false, false, false, false] rfl rfl (by kernel_rfl) (fun _ _ _ h => h) (Or.inl ⟨by rfl, ?_⟩) ?_ ?_
            rotate_left
            · intro w'
              go_simp
              with_reducible rfl
            rotate_left
            · simp only [Act.put, List.setIfInBounds_toArray, List.set_cons_zero, List.set_cons_succ, i64_w, i32_w]
              rfl
            refine pure_ (i := 8) (N := (some 60)) (v := ?_) (a' := ?_) #[true, true, true, true, false, false, true, true, true, false, false, false, false, false, false] rfl rfl (by kernel_rfl) (fun _ _ _ h => h) (Or.inl ⟨by rfl, ?_⟩) ?_ ?_
            rotate_left
            · intro w'
              go_simp
              with_reducible rfl
            rotate_left
            · simp only [Act.put, List.setIfInBounds_toArray, List.set_cons_zero, List.set_cons_succ, i64_w, i32_w]
              rfl
            clear hHeld c3
            refine one_ (i := 4) (N := (some 56)) #[true, true, true, true, true, false, true, true, true, false, false, false, false, false, false] rfl rfl (by kernel_rfl) (by decide) (fun K hK => ?_)
            refine goes_ Try.func26 (by kernel_rfl) rfl #[.pointer (some ⟨g, 0, none⟩), .int .i64 200] (by rfl) rfl rfl (by (try simp only [List.map_toArray, List.map_cons, List.map_nil]); first | done | rfl) ?_
            refine (l01Below w0 g 200 _ hD1.cur).mono ?_
            rintro e wa ⟨⟨a, rfl, a1, a2⟩, hCa, hGa⟩
            refine ⟨_, rfl, ?_⟩
            replace a2 := a2 (by omega)
            have hD2 := hD1.draw HSK.out hC hCa hGa
            refine hK.out _ _ ((blk_cell hD2.st 3).trans rfl) (fun _ => ?_)
            rename_i hJ_
            clear hJ_
            clear hK K
            refine norm_ (a' := ?_) ?_ ?_
            rotate_left
            · show Act.put _ (some 56) _ = _
              simp only [Act.put, List.setIfInBounds_toArray, List.set_cons_zero, List.set_cons_succ, i64_w, i32_w]
              rfl
            have hxa : 0 ≤ x * a ∧ x * a ≤ 199 * x := by
              have h1 : x * a ≤ x * 199 := Int.mul_le_mul_of_nonneg_left (by omega) hx1
              have h2 : 0 ≤ x * a := Int.mul_nonneg hx1 a1
              omega
            obtain ⟨u, hu⟩ : ∃ u, x * a = u := ⟨_, rfl⟩
            have e3 : IntKind.i64.wrap (x * a) = u := (i64w (by omega) (by omega)).trans hu
            rw [hu] at hxa
            clear hu
            refine pure_ (i := 5) (N := (some 57)) (v := ?_) (a' := ?_) #[true, true, true, true, true, true, true, true, true, false, false, false, false, false, false] rfl rfl (by kernel_rfl) (fun _ _ _ h => h) (Or.inl ⟨by rfl, ?_⟩) ?_ ?_
            rotate_left
            · intro w'
              go_simp
              with_reducible rfl
            rotate_left
            · simp only [Act.put, List.setIfInBounds_toArray, List.set_cons_zero, List.set_cons_succ, i64_w, i32_w]
              rfl
            refine one_ (i := 9) (N := (some 61)) #[true, true, true, true, true, true, true, true, true, true, false, false, false, false, false] rfl rfl (by kernel_rfl) (by decide) (fun K hK => ?_)
            refine goes_ Try.func26 (by kernel_rfl) rfl #[.pointer (some ⟨g, 0, none⟩), .int .i64 (x + 1)] (by rfl) rfl rfl (by (try simp only [List.map_toArray, List.map_cons, List.map_nil]); first | done | rfl) ?_
            refine (l01Below w0 g (x + 1) _ hD2.cur).mono ?_
            rintro e wb ⟨⟨z, rfl, z1, z2⟩, hCb, hGb⟩
            refine ⟨_, rfl, ?_⟩
            replace z2 := z2 (by omega)
            have hD3 := hD2.draw HSK.out hC hCb hGb
            refine hK.out _ _ ((blk_cell hD3.st 3).trans rfl) (fun _ => ?_)
            rename_i hJ_
            clear hJ_
            clear hK K
            refine norm_ (a' := ?_) ?_ ?_
            rotate_left
            · show Act.put _ (some 61) _ = _
              simp only [Act.put, List.setIfInBounds_toArray, List.set_cons_zero, List.set_cons_succ, i64_w, i32_w]
              rfl
            obtain ⟨q, hq⟩ : ∃ q, u + z = q := ⟨_, rfl⟩
            have e5 : IntKind.i64.wrap (u + z) = q := (i64w (by omega) (by omega)).trans hq
            have HQ := hid (show 0 ≤ q ∧ q ≤ 1000 * x by omega)
            have EQ := hid hq
            clear hq
            refine pure_ (i := 10) (N := (some 62)) (v := ?_) (a' := ?_) #[true, true, true, true, true, true, true, true, true, true, true, false, false, false, false] rfl rfl (by kernel_rfl) (fun _ _ _ h => h) (Or.inl ⟨by rfl, ?_⟩) ?_ ?_
            rotate_left
            · intro w'
              go_simp
              with_reducible rfl
            rotate_left
            · simp only [Act.put, List.setIfInBounds_toArray, List.set_cons_zero, List.set_cons_succ, i64_w, i32_w]
              rfl
            have bA := Bw.box1 wb (.cells #[.int .i64 q] 3)
            refine one_ (i := 11) (N := (some 63)) #[true, true, true, true, true, true, true, true, true, true, true, true, false, false, false] rfl rfl (by kernel_rfl) (by decide) (fun K hK => ?_)
            refine value_ (w1 := ?_) (v := ?_) (by rfl) rfl ?_ ?_
            rotate_left 2
            · go_simp
              constructor
              · rfl
              · rfl
            refine hK.out _ _ (pw_cell_below bA.out ((blk_cell hD3.st 3).trans rfl)) (fun _ => ?_)
            rename_i hJ_
            clear hJ_
            clear hK K
            refine norm_ (a' := ?_) ?_ ?_
            rotate_left
            · show Act.put _ (some 63) _ = _
              simp only [Act.put, List.setIfInBounds_toArray, List.set_cons_zero, List.set_cons_succ, i64_w, i32_w]
              rfl
            refine last_ (i := 12) (N := (some 64)) #[true, true, true, true, true, true, true, true, true, true, true, true, true, false, false] rfl rfl (by kernel_rfl) (by decide) (fun K hK => ?_)
            refine step_append_cells (w0 := wb) (W2.heap.size + 2) (by rfl) (.tmp 53) (.tmp 63) 27 3 (.int .i64 0) 1 8 rfl Try.underlying27 info_int rfl (by decide) (by decide) (.slice Xt ts.length yt) ts.length (nums .i64 ts) [.int .i64 (q)] rfl rfl rfl (by simp [Value.oneCell']) hD3.t.o.out (Below.refl _ _) hD3.sz (by omega) ?_
            intro v1 wd od hBd hgd had
            have hDz := hD3.app_t HSK.out hC (x := q) od hgd had
            obtain ⟨X2, y2, hv1, _, _⟩ := hDz.t.o.reads
            rw [List.length_append] at hv1
            simp only [List.length_cons, List.length_nil, Nat.zero_add] at hv1
            subst hv1
            have hst := blk_grown hD3.st hgd (own_ne hD3.t.o.out hD3.st (by decide))
            refine hK.out _ _ ?_
            clear hK K
            refine norm_ (a' := ?_) ?_ ?_
            rotate_left
            · show Act.put _ (some 64) _ = _
              simp only [Act.put, List.setIfInBounds_toArray, List.set_cons_zero, List.set_cons_succ, i64_w, i32_w]
              rfl
            refine pure_ (i := 13) (N := (some 65)) (v := ?_) (a' := ?_) #[true, true, true, true, true, true, true, true, true, true, true, true, true, true, false] rfl rfl (by kernel_rfl) (fun _ _ _ h => h) (Or.inl ⟨by rfl, ?_⟩) ?_ ?_
            rotate_left
            · intro w'
              go_simp
              with_reducible rfl
            rotate_left
            · simp only [Act.put, List.setIfInBounds_toArray, List.set_cons_zero, List.set_cons_succ, i64_w, i32_w]
              rfl
            refine last_ (i := 14) (N := none) #[true, true, true, true, true, true, true, true, true, true, true, true, true, true, true] rfl rfl (by kernel_rfl) (by decide) (fun K hK => ?_)
            have s3 := (blk_cell hst 3).trans (show _ = some (Value.slice Xt ts.length yt) from rfl)
            have f3 := blk_frozen hst 3
            have HDZ := hid hDz
            clear hst hDz hD3 hD2 hD1 hgd had od hBd bA hCa hCb hGa hGb bD
            refine skip_ (w1 := ?_) (by rfl) rfl ?_ ?_
            rotate_left
            · go_simp
              rfl
            refine hK.out _ _ ?_
            clear hK K
            refine done_ (by kernel_rfl) ?_
            clear s3 f3 e3 e5 ex1
            go_wp2
            go_roundw
            case rel => exact ⟨i + 1, _, _, _, ms ++ [x], ts ++ [q], by omega, by go_num, hid (hcs.out.app ⟨hx1, hx2⟩ HQ.out), HDZ⟩
            case measure => simp [intOf]; omega
          | true =>
            clear hx1 hx2
            have hDo := hD
            clear hD
            go_wp2_with fail
            refine (l01Below w0 g 3 _ hDo.cur).mono ?_
            rintro e_ wx ⟨⟨x, rfl, hx1, hx2⟩, hCx, hGx⟩
            replace hx2 : x ≤ 19999 := by have := hx2 (by omega); omega
            have hD := hDo.draw HSK.out hC hCx hGx
            clear hCx hGx hDo
            have c2 : wx.cell? ⟨W2.heap.size + 1, 2, none⟩ = some (.slice Xm ms.length ym) := (blk_cell hD.st 2).trans rfl
            have bL := Bw.box1 wx (.cells #[.int .i64 x] 3)
            have c2L := pw_cell_below bL.out c2
            have HD := hid hD
            clear hD
            go_upto_region 15 with (at_builtin; refine print_append_num (w0 := wx) (W2.heap.size + 2) rfl _ _ 27 3 .i64 8 rfl Try.underlying27 info_int (by omega) (.slice Xm ms.length ym) ms x rfl rfl HD.out.m.o.out (Below.refl _ _) HD.out.sz (by omega) ?_; intro v1 wd od hBd hgd had; have hDz := HD.out.app_m HSK.out hC (x := x) (by rw [nums_append, List.length_append] at od; exact od) hgd had; obtain ⟨X1, y1, hv1, _, _⟩ := hDz.m.o.reads; rw [List.length_append] at hv1; simp only [List.length_cons, List.length_nil, Nat.zero_add] at hv1; subst hv1; have hst := blk_grown HD.out.st hgd (own_ne HD.out.m.o.out HD.out.st (by decide)); have s2 := (blk_cell hst 2).trans (show _ = some (Value.slice Xm ms.length ym) from rfl); have f2 := blk_frozen hst 2; have HDM := hid hDz; clear hDz hst hgd had od hBd c2 c2L bL)
            generalize hWM : (wd.setCell ⟨W2.heap.size + 1, 2, none⟩ (.slice X1 (ms.length + 1) y1)) = wm at *
            clear hWM s2 f2
            have c3 : wm.cell? ⟨W2.heap.size + 1, 3, none⟩ = some (.slice Xt ts.length yt) := (blk_cell HDM.out.st 3).trans rfl
            have bD := Bw.drawn (a := wm) ⟨⟨1, rfl⟩⟩
            have hD1 := HDM.out.bw HSK.out hC bD
            refine start_ (n := 15) (S := fun w' => w'.cell? ⟨W2.heap.size + 1, 3, none⟩ = some (.slice Xt ts.length yt)) (ds := [12, 14]) #[false, false, false, false, false, false, false, false, false, false, false, false, false, false, false] (by kernel_rfl) rfl rfl c3 (fun hHeld => ?_)
            have ex1 : IntKind.i64.wrap (x + 1) = x + 1 := i64w (by omega) (by omega)
            refine pure_ (i := 0) (N := (some 52)) (v := ?_) (a' := ?_) #[true, false, false, false, false, false, false, false, false, false, false, false, false, false, false] rfl rfl (by kernel_rfl) (fun _ _ _ h => h) (Or.inl ⟨by rfl, ?_⟩) ?_ ?_
            rotate_left
            · intro w'
              go_simp
              with_reducible rfl
            rotate_left
            · simp only [Act.put, List.setIfInBounds_toArray, List.set_cons_zero, List.set_cons_succ, i64_w, i32_w]
              rfl
            refine take_ (i := 1) (N := (some 53)) (v := ?_) (a' := ?_) #[true, true, false, false, false, false, false, false, false, false, false, false, false, false, false] rfl rfl (by kernel_rfl) (fun _ _ _ h => h) (Or.inl ⟨by rfl, ?_⟩) hHeld ?_ ?_
            rotate_left
            · intro w' s0
              go_simp
              with_reducible rfl
            rotate_left
            · simp only [Act.put, List.setIfInBounds_toArray, List.set_cons_zero, List.set_cons_succ, i64_w, i32_w]
              rfl
            refine pure_ (i := 2) (N := (some 54)) (v := ?_) (a' := ?_) #[true, true, true, false, false, false, false, false, false, false, false, false, false, false, false] rfl rfl (by kernel_rfl) (fun _ _ _ h => h) (Or.inl ⟨by rfl, ?_⟩) ?_ ?_
            rotate_left
            · intro w'
              go_simp
              with_reducible rfl
            rotate_left
            · simp only [Act.put, List.setIfInBounds_toArray, List.set_cons_zero, List.set_cons_succ, i64_w, i32_w]
              rfl
            refine pure_ (i := 3) (N := (some 55)) (v := ?_) (a' := ?_) #[true, true, true, true, false, false, false, false, false, false, false, false, false, false, false] rfl rfl (by kernel_rfl) (fun _ _ _ h => h) (Or.inl ⟨by rfl, ?_⟩) ?_ ?_
            rotate_left
            · intro w'
              go_simp
              with_reducible rfl
            rotate_left
            · simp only [Act.put, List.setIfInBounds_toArray, List.set_cons_zero, List.set_cons_succ, i64_w, i32_w]
              rfl
            refine pure_ (i := 6) (N := (some 58)) (v := ?_) (a' := ?_) #[true, true, true, true, false, false, true, false, false, false, false, false, false, false, false] rfl rfl (by kernel_rfl) (fun _ _ _ h => h) (Or.inl ⟨by rfl, ?_⟩) ?_ ?_
            rotate_left
            · intro w'
              go_simp
              with_reducible rfl
            rotate_left
            · simp only [Act.put, List.setIfInBounds_toArray, List.set_cons_zero, List.set_cons_succ, i64_w, i32_w]
              rfl
            refine pure_ (i := 7) (N := (some 59)) (v := ?_) (a' := ?_) #[true, true, true, true, false, false, true, true, false, false, false, false, false, false, false] rfl rfl (by kernel_rfl) (fun _ _ _ h => h) (Or.inl ⟨by rfl, ?_⟩) ?_ ?_
            rotate_left
            · intro w'
              go_simp
              with_reducible rfl
            rotate_left
            · simp only [Act.put, List.setIfInBounds_toArray, List.set_cons_zero, List.set_cons_succ, i64_w, i32_w]
              rfl
            refine pure_ (i := 8) (N := (some 60)) (v := ?_) (a' := ?_) #[true, true, true, true, false, false, true, true, true, false, false, false, false, false, false] rfl rfl (by kernel_rfl) (fun _ _ _ h => h) (Or.inl ⟨by rfl, ?_⟩) ?_ ?_
            rotate_left
            · intro w'
              go_simp
              with_reducible rfl
            rotate_left
            · simp only [Act.put, List.setIfInBounds_toArray, List.set_cons_zero, List.set_cons_succ, i64_w, i32_w]
              rfl
            clear hHeld c3
            refine one_ (i := 4) (N := (some 56)) #[true, true, true, true, true, false, true, true, true, false, false, false, false, false, false] rfl rfl (by kernel_rfl) (by decide) (fun K hK => ?_)
            refine goes_ Try.func26 (by kernel_rfl) rfl #[.pointer (some ⟨g, 0, none⟩), .int .i64 200] (by rfl) rfl rfl (by (try simp only [List.map_toArray, List.map_cons, List.map_nil]); first | done | rfl) ?_
            refine (l01Below w0 g 200 _ hD1.cur).mono ?_
            rintro e wa ⟨⟨a, rfl, a1, a2⟩, hCa, hGa⟩
            refine ⟨_, rfl, ?_⟩
            replace a2 := a2 (by omega)
            have hD2 := hD1.draw HSK.out hC hCa hGa
            refine hK.out _ _ ((blk_cell hD2.st 3).trans rfl) (fun _ => ?_)
            rename_i hJ_
            clear hJ_
            clear hK K
            refine norm_ (a' := ?_) ?_ ?_
            rotate_left
            · show Act.put _ (some 56) _ = _
              simp only [Act.put, List.setIfInBounds_toArray, List.set_cons_zero, List.set_cons_succ, i64_w, i32_w]
              rfl
            have hxa : 0 ≤ x * a ∧ x * a ≤ 199 * x := by
              have h1 : x * a ≤ x * 199 := Int.mul_le_mul_of_nonneg_left (by omega) hx1
              have h2 : 0 ≤ x * a := Int.mul_nonneg hx1 a1
              omega
            obtain ⟨u, hu⟩ : ∃ u, x * a = u := ⟨_, rfl⟩
            have e3 : IntKind.i64.wrap (x * a) = u := (i64w (by omega) (by omega)).trans hu
            rw [hu] at hxa
            clear hu
            refine pure_ (i := 5) (N := (some 57)) (v := ?_) (a' := ?_) #[true, true, true, true, true, true, true, true, true, false, false, false, false, false, false] rfl rfl (by kernel_rfl) (fun _ _ _ h => h) (Or.inl ⟨by rfl, ?_⟩) ?_ ?_
            rotate_left
            · intro w'
              go_simp
              with_reducible rfl
            rotate_left
            · simp only [Act.put, List.setIfInBounds_toArray, List.set_cons_zero, List.set_cons_succ, i64_w, i32_w]
              rfl
            refine one_ (i := 9) (N := (some 61)) #[true, true, true, true, true, true, true, true, true, true, false, false, false, false, false] rfl rfl (by kernel_rfl) (by decide) (fun K hK => ?_)
            refine goes_ Try.func26 (by kernel_rfl) rfl #[.pointer (some ⟨g, 0, none⟩), .int .i64 (x + 1)] (by rfl) rfl rfl (by (try simp only [List.map_toArray, List.map_cons, List.map_nil]); first | done | rfl) ?_
            refine (l01Below w0 g (x + 1) _ hD2.cur).mono ?_
            rintro e wb ⟨⟨z, rfl, z1, z2⟩, hCb, hGb⟩
            refine ⟨_, rfl, ?_⟩
            replace z2 := z2 (by omega)
            have hD3 := hD2.draw HSK.out hC hCb hGb
            refine hK.out _ _ ((blk_cell hD3.st 3).trans rfl) (fun _ => ?_)
            rename_i hJ_
            clear hJ_
            clear hK K
            refine norm_ (a' := ?_) ?_ ?_
            rotate_left
            · show Act.put _ (some 61) _ = _
              simp only [Act.put, List.setIfInBounds_toArray, List.set_cons_zero, List.set_cons_succ, i64_w, i32_w]
              rfl
            obtain ⟨q, hq⟩ : ∃ q, u + z = q := ⟨_, rfl⟩
            have e5 : IntKind.i64.wrap (u + z) = q := (i64w (by omega) (by omega)).trans hq
            have HQ := hid (show 0 ≤ q ∧ q ≤ 1000 * x by omega)
            have EQ := hid hq
            clear hq
            refine pure_ (i := 10) (N := (some 62)) (v := ?_) (a' := ?_) #[true, true, true, true, true, true, true, true, true, true, true, false, false, false, false] rfl rfl (by kernel_rfl) (fun _ _ _ h => h) (Or.inl ⟨by rfl, ?_⟩) ?_ ?_
            rotate_left
            · intro w'
              go_simp
              with_reducible rfl
            rotate_left
            · simp only [Act.put, List.setIfInBounds_toArray, List.set_cons_zero, List.set_cons_succ, i64_w, i32_w]
              rfl
            have bA := Bw.box1 wb (.cells #[.int .i64 q] 3)
            refine one_ (i := 11) (N := (some 63)) #[true, true, true, true, true, true, true, true, true, true, true, true, false, false, false] rfl rfl (by kernel_rfl) (by decide) (fun K hK => ?_)
            refine value_ (w1 := ?_) (v := ?_) (by rfl) rfl ?_ ?_
            rotate_left 2
            · go_simp
              constructor
              · rfl
              · rfl
            refine hK.out _ _ (pw_cell_below bA.out ((blk_cell hD3.st 3).trans rfl)) (fun _ => ?_)
            rename_i hJ_
            clear hJ_
            clear hK K
            refine norm_ (a' := ?_) ?_ ?_
            rotate_left
            · show Act.put _ (some 63) _ = _
              simp only [Act.put, List.setIfInBounds_toArray, List.set_cons_zero, List.set_cons_succ, i64_w, i32_w]
              rfl
            refine last_ (i := 12) (N := (some 64)) #[true, true, true, true, true, true, true, true, true, true, true, true, true, false, false] rfl rfl (by kernel_rfl) (by decide) (fun K hK => ?_)
            refine step_append_cells (w0 := wb) (W2.heap.size + 2) (by rfl) (.tmp 53) (.tmp 63) 27 3 (.int .i64 0) 1 8 rfl Try.underlying27 info_int rfl (by decide) (by decide) (.slice Xt ts.length yt) ts.length (nums .i64 ts) [.int .i64 (q)] rfl rfl rfl (by simp [Value.oneCell']) hD3.t.o.out (Below.refl _ _) hD3.sz (by omega) ?_
            intro v1 wd od hBd hgd had
            have hDz := hD3.app_t HSK.out hC (x := q) od hgd had
            obtain ⟨X2, y2, hv1, _, _⟩ := hDz.t.o.reads
            rw [List.length_append] at hv1
            simp only [List.length_cons, List.length_nil, Nat.zero_add] at hv1
            subst hv1
            have hst := blk_grown hD3.st hgd (own_ne hD3.t.o.out hD3.st (by decide))
            refine hK.out _ _ ?_
            clear hK K
            refine norm_ (a' := ?_) ?_ ?_
            rotate_left
            · show Act.put _ (some 64) _ = _
              simp only [Act.put, List.setIfInBounds_toArray, List.set_cons_zero, List.set_cons_succ, i64_w, i32_w]
              rfl
            refine pure_ (i := 13) (N := (some 65)) (v := ?_) (a' := ?_) #[true, true, true, true, true, true, true, true, true, true, true, true, true, true, false] rfl rfl (by kernel_rfl) (fun _ _ _ h => h) (Or.inl ⟨by rfl, ?_⟩) ?_ ?_
            rotate_left
            · intro w'
              go_simp
              with_reducible rfl
            rotate_left
            · simp only [Act.put, List.setIfInBounds_toArray, List.set_cons_zero, List.set_cons_succ, i64_w, i32_w]
              rfl
            refine last_ (i := 14) (N := none) #[true, true, true, true, true, true, true, true, true, true, true, true, true, true, true] rfl rfl (by kernel_rfl) (by decide) (fun K hK => ?_)
            have s3 := (blk_cell hst 3).trans (show _ = some (Value.slice Xt ts.length yt) from rfl)
            have f3 := blk_frozen hst 3
            have HDZ := hid hDz
            clear hst hDz hD3 hD2 hD1 hgd had od hBd bA hCa hCb hGa hGb bD
            refine skip_ (w1 := ?_) (by rfl) rfl ?_ ?_
            rotate_left
            · go_simp
              rfl
            refine hK.out _ _ ?_
            clear hK K
            refine done_ (by kernel_rfl) ?_
            clear s3 f3 e3 e5 ex1
            go_wp2
            go_roundw
            case rel => exact ⟨i + 1, _, _, _, ms ++ [x], ts ++ [q], by omega, by go_num, hid (hcs.out.app ⟨hx1, hx2⟩ HQ.out), HDZ⟩
            case measure => simp [intOf]; omega
        · obtain rfl : i = n := by omega
          have u1 : decide ((i : Int) < (i : Int)) = false := decide_eq_false (by omega)
          have hD := hSD2.out
          have HDS := hid (DrawnS.of (l := l) HBAL.out HRO.out (by rw [HLN.out]; exact hcs.out) HRR.out hbx.out)
          have hRk := hD.re
          have l0 := (blk_cell hD.st 0).trans (show _ = some (Value.int .i64 ro) from rfl)
          have s0 := (blk_cell hRk 0).trans (show _ = some (Value.int .i64 0) from rfl)
          have f0 := blk_frozen hRk 0
          have l1 := (blk_cell hD.st 1).trans (show _ = some (Value.slice X i y) from rfl)
          have s1 := (blk_cell hRk 1).trans (show _ = some (Value.slice none 0 0) from rfl)
          have f1 := blk_frozen hRk 1
          have l2 := (blk_cell hD.st 2).trans (show _ = some (Value.slice Xm ms.length ym) from rfl)
          have s2 := (blk_cell hRk 2).trans (show _ = some (Value.slice none 0 0) from rfl)
          have f2 := blk_frozen hRk 2
          have l3 := (blk_cell hD.st 3).trans (show _ = some (Value.slice Xt ts.length yt) from rfl)
          have s3 := (blk_cell hRk 3).trans (show _ = some (Value.slice none 0 0) from rfl)
          have f3 := blk_frozen hRk 3
          have l4 := (blk_cell hD.st 4).trans (show _ = some (Value.slice Xb bd.length yb) from rfl)
          have s4 := (blk_cell hRk 4).trans (show _ = some (Value.slice none 0 0) from rfl)
          have f4 := blk_frozen hRk 4
          have HF := hid (show (((((wr.setCell ⟨w.heap.size, 0, none⟩ (.int .i64 ro)).setCell ⟨w.heap.size, 1, none⟩ (.slice X i y)).setCell ⟨w.heap.size, 2, none⟩ (.slice Xm ms.length ym)).setCell ⟨w.heap.size, 3, none⟩ (.slice Xt ts.length yt)).setCell ⟨w.heap.size, 4, none⟩ (.slice Xb bd.length yb)).heap[w.heap.size]? = some (.cells #[.int .i64 ro, .slice X i y, .slice Xm ms.length ym, .slice Xt ts.length yt, .slice Xb bd.length yb] 29 (0, 0)) from (blk_set (blk_set (blk_set (blk_set (blk_set hRk 0 (.int .i64 ro)) 1 (.slice X i y)) 2 (.slice Xm ms.length ym)) 3 (.slice Xt ts.length yt)) 4 (.slice Xb bd.length yb)))
          have CF : Wi wr (((((wr.setCell ⟨w.heap.size, 0, none⟩ (.int .i64 ro)).setCell ⟨w.heap.size, 1, none⟩ (.slice X i y)).setCell ⟨w.heap.size, 2, none⟩ (.slice Xm ms.length ym)).setCell ⟨w.heap.size, 3, none⟩ (.slice Xt ts.length yt)).setCell ⟨w.heap.size, 4, none⟩ (.slice Xb bd.length yb)) w.heap.size (w.heap.size + 1) := (((((Wi.refl wr w.heap.size (w.heap.size + 1)).trans (Wi.put _ _ 0 (.int .i64 ro))).trans (Wi.put _ _ 1 (.slice X i y))).trans (Wi.put _ _ 2 (.slice Xm ms.length ym))).trans (Wi.put _ _ 3 (.slice Xt ts.length yt))).trans (Wi.put _ _ 4 (.slice Xb bd.length yb))
          have HCF := hid (show Cur w0 (((((wr.setCell ⟨w.heap.size, 0, none⟩ (.int .i64 ro)).setCell ⟨w.heap.size, 1, none⟩ (.slice X i y)).setCell ⟨w.heap.size, 2, none⟩ (.slice Xm ms.length ym)).setCell ⟨w.heap.size, 3, none⟩ (.slice Xt ts.length yt)).setCell ⟨w.heap.size, 4, none⟩ (.slice Xb bd.length yb)) g from ((((((((((hD.cur).set (M := w.heap.size) hC.below.size hRg 0 (.int .i64 ro))).set (M := w.heap.size) hC.below.size hRg 1 (.slice X i y))).set (M := w.heap.size) hC.below.size hRg 2 (.slice Xm ms.length ym))).set (M := w.heap.size) hC.below.size hRg 3 (.slice Xt ts.length yt))).set (M := w.heap.size) hC.below.size hRg 4 (.slice Xb bd.length yb)))
          have hml : ms.length = l.length := by rw [hcs.out.lm, HLN.out]
          have htl : ts.length = l.length := by rw [hcs.out.lt, HLN.out]
          have HST := hid (show StO (((((wr.setCell ⟨w.heap.size, 0, none⟩ (.int .i64 ro)).setCell ⟨w.heap.size, 1, none⟩ (.slice X i y)).setCell ⟨w.heap.size, 2, none⟩ (.slice Xm ms.length ym)).setCell ⟨w.heap.size, 3, none⟩ (.slice Xt ts.length yt)).setCell ⟨w.heap.size, 4, none⟩ (.slice Xb bd.length yb)) (g + 1) (((((wr.setCell ⟨w.heap.size, 0, none⟩ (.int .i64 ro)).setCell ⟨w.heap.size, 1, none⟩ (.slice X i y)).setCell ⟨w.heap.size, 2, none⟩ (.slice Xm ms.length ym)).setCell ⟨w.heap.size, 3, none⟩ (.slice Xt ts.length yt)).setCell ⟨w.heap.size, 4, none⟩ (.slice Xb bd.length yb)).heap.size (.agg #[.int .i64 ro, .slice X i y, .slice Xm ms.length ym, .slice Xt ts.length yt, .slice Xb bd.length yb]) ⟨ro, l, ms, ts, bd⟩ from ⟨_, _, _, _, rfl, by rw [HLN.out]; exact (FO.put hD.li hRk (by decide) CF).rw, (FO.less (FO.put hD.m.o hRk (by decide) CF) HSK.out.hg).rw, (FO.less (FO.put hD.t.o hRk (by decide) CF) HSK.out.hg).rw, (FO.less (FO.put hD.b.o hRk (by decide) CF) HSK.out.hg).rw, Apart.old HSK.out.hli hD.m.o, Apart.old HSK.out.hli hD.t.o, Apart.old HSK.out.hli hD.b.o, hD.m.apart hD.t (by decide), hD.m.apart hD.b (by decide), hD.t.apart hD.b (by decide)⟩)
          have HGW := hid (grown_cur hC HCF.out (Nat.le_trans hD.gr.size CF.size) (fun b hb hne => (CF.block b (by have := hD.gr.size; omega) (by omega)).trans (hD.gr.block b hb (fun e => hne (Option.some.inj e)))))
          clear CF hRk hml htl hD
          go_wp2
          refine bodyPost_ret (results_cell_row rfl _ _ w.heap.size 29 #[.int .i64 ro, .slice X i y, .slice Xm ms.length ym, .slice Xt ts.length yt, .slice Xb bd.length yb] (0, 0) _ rfl HF.out Try.underlying29 rfl (by kernel_rfl)) rfl ?_
          exact ⟨_, _, rfl, HDS.out, HST.out, HCF.out, HGW.out⟩
set_option maxHeartbeats 4000000 in
theorem DrawState (A0 : Option Addr) (n0 c0 : Nat) (bytes : List Int) (w : World) (r : ReadsInt w .u8 A0 n0 bytes) (hby : ∀ x ∈ bytes, 0 ≤ x ∧ x ≤ 255) (hn : n0 ≤ 1048576) :
    Calls Try.prog 7 #[.slice A0 n0 c0] w fun e w' => ∃ x s, e = .returned x ∧ DrawnS s ∧ StO w' w.heap.size w'.heap.size x s ∧ Bw w w' := by
  have HBY := hid hby
  clear hby
  have b0 := Bw.box1 w (.cells #[.int .i64 0, .slice none 0 0, .slice none 0 0, .slice none 0 0, .slice none 0 0] 29)
  have hR := heap_alloc_new w (.cells #[.int .i64 0, .slice none 0 0, .slice none 0 0, .slice none 0 0, .slice none 0 0] 29 (0, 0))
  go_enter Try.func7, Try.ntmps7
  go_wp2_with fail
  generalize (w.alloc (.cells #[.int .i64 0, .slice none 0 0, .slice none 0 0, .slice none 0 0, .slice none 0 0] 29)) = W1 at *
  refine (l01New A0 n0 c0 bytes _ (r.below b0.out) HBY.out hn).mono ?_
  rintro e w2 ⟨g, rfl, hC⟩
  have hRg : w.heap.size < g := by have h1 := hC.lo; have h2 := blk_lt hR; omega
  go_wp2_with fail
  refine (l07State W1 g _ hC).mono ?_
  rintro e w3 ⟨x, s, rfl, hs, hO, hC3, hG3⟩
  have hRf := (hC3.bw0.out.block _ (blk_lt hR)).trans hR
  obtain ⟨vl, vm, vt, vb, rfl, q0, q1, q2, q3, hap⟩ := hO
  obtain ⟨X0, y0, rfl, _, _⟩ := q0.reads
  obtain ⟨X1, y1, rfl, _, _⟩ := q1.reads
  obtain ⟨X2, y2, rfl, _, _⟩ := q2.reads
  obtain ⟨X3, y3, rfl, _, _⟩ := q3.reads
  have s0 := (blk_cell hRf 0).trans (show _ = some (Value.int .i64 0) from rfl)
  have f0 := blk_frozen hRf 0
  have s1 := (blk_cell hRf 1).trans (show _ = some (Value.slice none 0 0) from rfl)
  have f1 := blk_frozen hRf 1
  have s2 := (blk_cell hRf 2).trans (show _ = some (Value.slice none 0 0) from rfl)
  have f2 := blk_frozen hRf 2
  have s3 := (blk_cell hRf 3).trans (show _ = some (Value.slice none 0 0) from rfl)
  have f3 := blk_frozen hRf 3
  have s4 := (blk_cell hRf 4).trans (show _ = some (Value.slice none 0 0) from rfl)
  have f4 := blk_frozen hRf 4
  have HF := hid (show (((((w3.setCell ⟨w.heap.size, 0, none⟩ (.int .i64 s.ro)).setCell ⟨w.heap.size, 1, none⟩ (.slice X0 s.lv.length y0)).setCell ⟨w.heap.size, 2, none⟩ (.slice X1 s.ms.length y1)).setCell ⟨w.heap.size, 3, none⟩ (.slice X2 s.ts.length y2)).setCell ⟨w.heap.size, 4, none⟩ (.slice X3 s.bd.length y3)).heap[w.heap.size]? = some (.cells #[.int .i64 s.ro, .slice X0 s.lv.length y0, .slice X1 s.ms.length y1, .slice X2 s.ts.length y2, .slice X3 s.bd.length y3] 29 (0, 0)) from (blk_set (blk_set (blk_set (blk_set (blk_set hRf 0 (.int .i64 s.ro)) 1 (.slice X0 s.lv.length y0)) 2 (.slice X1 s.ms.length y1)) 3 (.slice X2 s.ts.length y2)) 4 (.slice X3 s.bd.length y3)))
  have CF : Wi w3 (((((w3.setCell ⟨w.heap.size, 0, none⟩ (.int .i64 s.ro)).setCell ⟨w.heap.size, 1, none⟩ (.slice X0 s.lv.length y0)).setCell ⟨w.heap.size, 2, none⟩ (.slice X1 s.ms.length y1)).setCell ⟨w.heap.size, 3, none⟩ (.slice X2 s.ts.length y2)).setCell ⟨w.heap.size, 4, none⟩ (.slice X3 s.bd.length y3)) w.heap.size (w.heap.size + 1) := (((((Wi.refl w3 w.heap.size (w.heap.size + 1)).trans (Wi.put _ _ 0 (.int .i64 s.ro))).trans (Wi.put _ _ 1 (.slice X0 s.lv.length y0))).trans (Wi.put _ _ 2 (.slice X1 s.ms.length y1))).trans (Wi.put _ _ 3 (.slice X2 s.ts.length y2))).trans (Wi.put _ _ 4 (.slice X3 s.bd.length y3))
  have HO := hid (show StO (((((w3.setCell ⟨w.heap.size, 0, none⟩ (.int .i64 s.ro)).setCell ⟨w.heap.size, 1, none⟩ (.slice X0 s.lv.length y0)).setCell ⟨w.heap.size, 2, none⟩ (.slice X1 s.ms.length y1)).setCell ⟨w.heap.size, 3, none⟩ (.slice X2 s.ts.length y2)).setCell ⟨w.heap.size, 4, none⟩ (.slice X3 s.bd.length y3)) w.heap.size (((((w3.setCell ⟨w.heap.size, 0, none⟩ (.int .i64 s.ro)).setCell ⟨w.heap.size, 1, none⟩ (.slice X0 s.lv.length y0)).setCell ⟨w.heap.size, 2, none⟩ (.slice X1 s.ms.length y1)).setCell ⟨w.heap.size, 3, none⟩ (.slice X2 s.ts.length y2)).setCell ⟨w.heap.size, 4, none⟩ (.slice X3 s.bd.length y3)).heap.size (.agg #[.int .i64 s.ro, .slice X0 s.lv.length y0, .slice X1 s.ms.length y1, .slice X2 s.ts.length y2, .slice X3 s.bd.length y3]) s from ⟨_, _, _, _, rfl, (q0.wi CF (.inr (by omega))).mono (by omega) CF.size, (q1.wi CF (.inr (by omega))).mono (by omega) CF.size, (q2.wi CF (.inr (by omega))).mono (by omega) CF.size, (q3.wi CF (.inr (by omega))).mono (by omega) CF.size, hap⟩)
  have HB := hid ((b0.trans hC3.bw0).then_wi CF (Nat.le_refl _))
  have HS := hid hs
  clear CF hRf q0 q1 q2 q3 hap hC hC3 hG3 b0 hR hs
  go_wp2
  refine bodyPost_ret (results_cell_row rfl _ _ w.heap.size 29 #[.int .i64 s.ro, .slice X0 s.lv.length y0, .slice X1 s.ms.length y1, .slice X2 s.ts.length y2, .slice X3 s.bd.length y3] (0, 0) _ rfl HF.out Try.underlying29 rfl (by kernel_rfl)) rfl ?_
  exact ⟨_, _, rfl, HS.out, HO.out, HB.out⟩
end Go.Proofs.Ytaidbdogolhnjaa.U
