
/- Cells: validity, width, start and end, by the program and by the reference. -/
import Derived.Test.YtaidbdogolhnjaaAp
import Derived.Test.YtaidbdogolhnjaaWMore
import Derived.Deep.QuietTactic
import Derived.BigQuiet
import Derived.Deep.RegionHeld3
set_option linter.unusedVariables false
set_option linter.unusedSimpArgs false
namespace Go.Proofs.Ytaidbdogolhnjaa.U
open Go.RowKit Go.Lib Go.Proofs.YtaidbdogolhnjaaW.PrintWords

/-- a cell: root, level, index -/
structure Ce where
  r : Int
  l : Int
  i : Int
deriving DecidableEq, Repr
def pow2 (l : Int) : Int := if l = 0 then 1 else if l = 1 then 2 else if l = 2 then 4 else if l = 3 then 8 else if l = 4 then 16 else 1
def wid (l : Int) : Int := if l = 0 then 16 else if l = 1 then 8 else if l = 2 then 4 else if l = 3 then 2 else if l = 4 then 1 else 0
def ceOk (x : Ce) : Bool := inR x.r 0 7 && inR x.l 0 4 && inR x.i 0 (pow2 x.l - 1)
def ceAt (x : Ce) : Int := if ceOk x = true then x.r * 16 + x.i * wid x.l else -1
def ceEnd (x : Ce) : Int := ceAt x + wid x.l
theorem lvl5 {l : Int} (h : inR l 0 4 = true) : l = 0 ∨ l = 1 ∨ l = 2 ∨ l = 3 ∨ l = 4 := by have := inR_iff.1 h; omega
theorem wid_range (l : Int) : 0 ≤ wid l ∧ wid l ≤ 16 := by unfold wid; (repeat' split) <;> omega
theorem pow2_range (l : Int) : 1 ≤ pow2 l ∧ pow2 l ≤ 16 := by unfold pow2; (repeat' split) <;> omega
theorem ceOk_facts {x : Ce} (h : ceOk x = true) : (0 ≤ x.r ∧ x.r ≤ 7) ∧ (0 ≤ x.l ∧ x.l ≤ 4) ∧ (0 ≤ x.i ∧ x.i ≤ 15) ∧ x.i < pow2 x.l := by
  simp only [ceOk, Bool.and_eq_true, inR_iff] at h
  have := pow2_range x.l
  omega
theorem ceAt_range (x : Ce) : -1 ≤ ceAt x ∧ ceAt x ≤ 400 := by
  unfold ceAt
  split
  · rename_i h
    have h1 := ceOk_facts h
    have h2 := wid_range x.l
    have h3 := Int.mul_nonneg h1.2.2.1.1 h2.1
    have h4 := Int.mul_le_mul h1.2.2.1.2 h2.2 h2.1 (by omega)
    omega
  · omega
theorem isLevel (n : Int) (w : World) : Calls Try.prog 98 #[.int .i64 n] w fun e w' => e = .returned (.bool (inR n 0 4)) ∧ w = w' := by
  go_enter Try.func98, Try.ntmps98
  go_wp2_with fail
  refine (within _ _ _ _).mono ?_
  rintro e w' ⟨rfl, rfl⟩
  go_wp2
  go_ret
  exact ⟨rfl, rfl⟩
theorem impl_WidthOf (n : Int) (w : World) : Calls Try.prog 99 #[.int .i64 n] w fun e w' => e = .returned (.int .i64 (wid n)) ∧ w = w' := by
  cases h : inR n 0 4 with
  | false =>
    have h2 := inR_false h
    rw [show wid n = 0 by unfold wid; rw [if_neg (by omega), if_neg (by omega), if_neg (by omega), if_neg (by omega), if_neg (by omega)]]
    have H := hid h; clear h h2
    go_enter Try.func99, Try.ntmps99
    go_wp2_with fail
    refine (isLevel _ _).mono ?_
    rintro e w' ⟨rfl, rfl⟩
    rw [H.out]
    go_wp2
    go_ret
    exact ⟨rfl, rfl⟩
  | true =>
    have lv := lvl5 h
    have H := hid h; clear h
    rcases lv with rfl | rfl | rfl | rfl | rfl
    all_goals
      go_enter Try.func99, Try.ntmps99
      go_wp2_with fail
      refine (isLevel _ _).mono ?_
      rintro e w' ⟨rfl, rfl⟩
      rw [H.out]
      go_wp2
      go_ret
      exact ⟨rfl, rfl⟩
theorem spec_WidthOf (n : Int) (w : World) : Calls Try.prog 108 #[.int .i64 n] w fun e w' => e = .returned (.int .i64 (wid n)) ∧ w = w' := by
  cases h : inR n 0 4 with
  | false =>
    have h2 := inR_false h
    rw [show wid n = 0 by unfold wid; rw [if_neg (by omega), if_neg (by omega), if_neg (by omega), if_neg (by omega), if_neg (by omega)]]
    have H := hid h; clear h h2
    go_enter Try.func108, Try.ntmps108
    go_wp2_with fail
    refine (l01In _ _ _ _).mono ?_
    rintro e w' ⟨rfl, rfl⟩
    rw [H.out]
    go_wp2
    go_ret
    exact ⟨rfl, rfl⟩
  | true =>
    have lv := lvl5 h
    have H := hid h; clear h
    rcases lv with rfl | rfl | rfl | rfl | rfl
    all_goals
      go_enter Try.func108, Try.ntmps108
      go_wp2_with fail
      refine (l01In _ _ _ _).mono ?_
      rintro e w' ⟨rfl, rfl⟩
      rw [H.out]
      go_wp2
      go_ret
      exact ⟨rfl, rfl⟩
theorem quietB {P : Program} {f : FuncId} {args : Array Value} {w : World} {n : Nat} {b c : Bool} (h : Calls P f args (w.drewN n) fun e w' => e = .returned (.bool b) ∧ w.drewN n = w') (e0 : b = c) : Calls P f args (w.drewN n) fun e w'' => e = .returned (.bool c) ∧ ∃ m, w'' = w.drewN m :=
  Calls.quiet_of_same (h.mono fun e w' h => ⟨by rw [← e0]; exact h.1, h.2.symm⟩)
theorem quietV {P : Program} {f : FuncId} {args : Array Value} {w : World} {n : Nat} {v : Value} (h : Calls P f args (w.drewN n) fun e w' => e = .returned v ∧ w.drewN n = w') : Calls P f args (w.drewN n) fun e w'' => e = .returned v ∧ ∃ m, w'' = w.drewN m :=
  Calls.quiet_of_same (h.mono fun e w' h => ⟨h.1, h.2.symm⟩)
/-- behind a box and some draws -/
theorem Bw.boxN (w : World) (o : Obj) (n : Nat) : Bw w ((w.alloc o).drewN n) := ((Bw.refl w).alloc o).trans (Bw.drawn ⟨⟨n, rfl⟩⟩)
theorem Bw.box1 (w : World) (o : Obj) : Bw w (w.alloc o) := (Bw.refl w).alloc o
set_option maxHeartbeats 2000000 in
set_option maxRecDepth 100000 in
theorem impl_IdOk (r l i : Int) (w : World) : Calls Try.prog 74 #[.agg #[.int .i64 r, .int .i64 l, .int .i64 i]] w fun e w' => e = .returned (.bool (ceOk ⟨r, l, i⟩)) ∧ Bw w w' := by
  cases h1 : inR r 0 7 with
  | false =>
    rw [show ceOk ⟨r, l, i⟩ = false by simp [ceOk, h1]]
    go_enter Try.func74, Try.ntmps74
    go_wp2
    go_quiet ((first | (go_at_call 77; exact quietV (within _ _ _ _)) | (go_at_call 98; exact quietV (isLevel _ _))))
    go_wp2
    go_ret
    exact ⟨rfl, Bw.boxN _ _ _⟩
  | true =>
    cases h2 : inR l 0 4 with
    | false =>
      rw [show ceOk ⟨r, l, i⟩ = false by simp [ceOk, h2]]
      go_enter Try.func74, Try.ntmps74
      go_wp2
      go_quiet ((first | (go_at_call 77; exact quietV (within _ _ _ _)) | (go_at_call 98; exact quietV (isLevel _ _))))
      go_wp2
      go_ret
      exact ⟨rfl, Bw.boxN _ _ _⟩
    | true =>
      have lv := lvl5 h2
      have e : ceOk ⟨r, l, i⟩ = inR i 0 (pow2 l - 1) := by simp [ceOk, h1, h2]
      rw [e]
      clear e
      rcases lv with rfl | rfl | rfl | rfl | rfl
      all_goals
        go_enter Try.func74, Try.ntmps74
        go_wp2
        go_quiet ((first | (go_at_call 77; exact quietV (within _ _ _ _)) | (go_at_call 98; exact quietV (isLevel _ _))))
        go_wp2
        go_ret
        exact ⟨rfl, Bw.boxN _ _ _⟩
set_option maxHeartbeats 2000000 in
set_option maxRecDepth 100000 in
theorem spec_IdOk (r l i : Int) (w : World) : Calls Try.prog 95 #[.agg #[.int .i64 r, .int .i64 l, .int .i64 i]] w fun e w' => e = .returned (.bool (ceOk ⟨r, l, i⟩)) ∧ Bw w w' := by
  cases h1 : inR r 0 7 with
  | false =>
    rw [show ceOk ⟨r, l, i⟩ = false by simp [ceOk, h1]]
    have H := hid h1; clear h1
    go_enter Try.func95, Try.ntmps95
    go_wp2_with fail
    refine (toBool (l01In _ _ _ _) H.out).mono ?_
    rintro e w' ⟨rfl, rfl⟩
    go_wp2
    go_ret
    exact ⟨rfl, Bw.box1 _ _⟩
  | true =>
    have H1 := hid h1
    cases h2 : inR l 0 4 with
    | false =>
      rw [show ceOk ⟨r, l, i⟩ = false by simp [ceOk, h2]]
      have H := hid h2; clear h2 h1
      go_enter Try.func95, Try.ntmps95
      go_wp2_with fail
      refine (toBool (l01In _ _ _ _) H1.out).mono ?_
      rintro e w' ⟨rfl, rfl⟩
      go_wp2_with fail
      refine (toBool (l01In _ _ _ _) H.out).mono ?_
      rintro e w' ⟨rfl, rfl⟩
      go_wp2
      go_ret
      exact ⟨rfl, Bw.box1 _ _⟩
    | true =>
      have lv := lvl5 h2
      have H2 := hid h2
      have e : ceOk ⟨r, l, i⟩ = inR i 0 (pow2 l - 1) := by simp [ceOk, h1, h2]
      rw [e]
      clear e h1 h2
      by_cases h4 : 0 ≤ i
      · have t1 : decide (i ≥ 0) = true := decide_eq_true h4
        rcases lv with rfl | rfl | rfl | rfl | rfl
        all_goals
          have hr : ∀ n : Int, decide (i < n) = inR i 0 (n - 1) := fun n => by rw [Bool.eq_iff_iff, inR_iff, decide_eq_true_iff]; omega
          have HR := hid hr
          clear h4 hr
          go_enter Try.func95, Try.ntmps95
          go_wp2_with fail
          refine (toBool (l01In _ _ _ _) H1.out).mono ?_
          rintro e w' ⟨rfl, rfl⟩
          go_wp2_with fail
          refine (toBool (l01In _ _ _ _) H2.out).mono ?_
          rintro e w' ⟨rfl, rfl⟩
          go_wp2
          go_ret
          exact ⟨ret_bool (HR.out _), Bw.box1 _ _⟩
      · have t1 : decide (i ≥ 0) = false := decide_eq_false h4
        have hr : inR i 0 (pow2 l - 1) = false := inR_no (by omega)
        rw [hr]
        clear h4 hr
        rcases lv with rfl | rfl | rfl | rfl | rfl
        all_goals
          go_enter Try.func95, Try.ntmps95
          go_wp2_with fail
          refine (toBool (l01In _ _ _ _) H1.out).mono ?_
          rintro e w' ⟨rfl, rfl⟩
          go_wp2_with fail
          refine (toBool (l01In _ _ _ _) H2.out).mono ?_
          rintro e w' ⟨rfl, rfl⟩
          go_wp2
          go_ret
          exact ⟨rfl, Bw.box1 _ _⟩
/-- a box behind a call that turned nothing old -/
theorem box_cell {w w1 : World} {t : TypeId} {cs : Array Value} (b : Bw (w.alloc (.cells cs t)) w1) (i : Nat) : w1.cell? ⟨w.heap.size, i, none⟩ = cs[i]? := by
  have h : w1.heap[w.heap.size]? = some (.cells cs t (0, 0)) := (b.out.block _ (by simp)).trans (heap_alloc_new w _)
  exact blk_cell h i
set_option maxHeartbeats 2000000 in
set_option maxRecDepth 100000 in
theorem impl_StartOf (r l i : Int) (w : World) : Calls Try.prog 75 #[.agg #[.int .i64 r, .int .i64 l, .int .i64 i]] w fun e w' => e = .returned (.int .i64 (ceAt ⟨r, l, i⟩)) ∧ Bw w w' := by
  cases h : ceOk ⟨r, l, i⟩ with
  | false =>
    rw [show ceAt ⟨r, l, i⟩ = -1 by simp [ceAt, h]]
    have H := hid h; clear h
    go_enter Try.func75, Try.ntmps75
    go_wp2_with fail
    refine (impl_IdOk _ _ _ _).mono ?_
    rintro e w1 ⟨rfl, b⟩
    rw [H.out]
    go_wp2
    go_ret
    exact ⟨rfl, (Bw.box1 _ _).trans b⟩
  | true =>
    rw [show ceAt ⟨r, l, i⟩ = r * 16 + i * wid l by simp [ceAt, h]]
    have hf := ceOk_facts h
    have hw := wid_range l
    simp only at hf
    have m0 := Int.mul_nonneg hf.2.2.1.1 hw.1
    have m1 := Int.mul_le_mul hf.2.2.1.2 hw.2 hw.1 (by omega)
    have H := hid h; clear h
    have HW := hid (show ∀ w : World, Calls Try.prog 99 #[.int .i64 l] w fun e w' => e = .returned (.int .i64 (wid l)) ∧ w = w' from fun w => impl_WidthOf l w)
    have e1 : IntKind.i64.wrap (r * 16) = r * 16 := i64w (by omega) (by omega)
    have e2 : IntKind.i64.wrap (i * wid l) = i * wid l := i64w (by omega) (by omega)
    have e3 : IntKind.i64.wrap (r * 16 + i * wid l) = r * 16 + i * wid l := i64w (by omega) (by omega)
    clear m0 m1 hw hf
    go_enter Try.func75, Try.ntmps75
    go_wp2_with fail
    refine (impl_IdOk _ _ _ _).mono ?_
    rintro e w1 ⟨rfl, b⟩
    rw [H.out]
    have c0 := box_cell b 0
    have c1 := box_cell b 1
    have c2 := box_cell b 2
    replace b := (Bw.box1 _ _).trans b
    simp only [List.getElem?_toArray, List.getElem?_cons_zero, List.getElem?_cons_succ] at c0 c1 c2
    go_wp2
    go_quiet ((go_at_call 99; exact quietV (HW.out _)))
    go_wp2
    go_ret
    exact ⟨rfl, b.trans (Bw.drawn ⟨⟨_, rfl⟩⟩)⟩
set_option maxHeartbeats 2000000 in
set_option maxRecDepth 100000 in
theorem spec_StartOf (r l i : Int) (w : World) : Calls Try.prog 96 #[.agg #[.int .i64 r, .int .i64 l, .int .i64 i]] w fun e w' => e = .returned (.int .i64 (ceAt ⟨r, l, i⟩)) ∧ Bw w w' := by
  cases h : ceOk ⟨r, l, i⟩ with
  | false =>
    rw [show ceAt ⟨r, l, i⟩ = -1 by simp [ceAt, h]]
    have H := hid h; clear h
    go_enter Try.func96, Try.ntmps96
    go_wp2_with fail
    refine (spec_IdOk _ _ _ _).mono ?_
    rintro e w1 ⟨rfl, b⟩
    rw [H.out]
    go_wp2
    go_ret
    exact ⟨rfl, (Bw.box1 _ _).trans b⟩
  | true =>
    rw [show ceAt ⟨r, l, i⟩ = r * 16 + i * wid l by simp [ceAt, h]]
    have hf := ceOk_facts h
    have hw := wid_range l
    simp only at hf
    have m0 := Int.mul_nonneg hf.2.2.1.1 hw.1
    have m1 := Int.mul_le_mul hf.2.2.1.2 hw.2 hw.1 (by omega)
    have H := hid h; clear h
    have HW := hid (show ∀ w : World, Calls Try.prog 108 #[.int .i64 l] w fun e w' => e = .returned (.int .i64 (wid l)) ∧ w = w' from fun w => spec_WidthOf l w)
    have e1 : IntKind.i64.wrap (r * 16) = r * 16 := i64w (by omega) (by omega)
    have e2 : IntKind.i64.wrap (i * wid l) = i * wid l := i64w (by omega) (by omega)
    have e3 : IntKind.i64.wrap (r * 16 + i * wid l) = r * 16 + i * wid l := i64w (by omega) (by omega)
    clear m0 m1 hw hf
    go_enter Try.func96, Try.ntmps96
    go_wp2_with fail
    refine (spec_IdOk _ _ _ _).mono ?_
    rintro e w1 ⟨rfl, b⟩
    rw [H.out]
    have c0 := box_cell b 0
    have c1 := box_cell b 1
    have c2 := box_cell b 2
    replace b := (Bw.box1 _ _).trans b
    simp only [List.getElem?_toArray, List.getElem?_cons_zero, List.getElem?_cons_succ] at c0 c1 c2
    go_wp2
    go_quiet ((go_at_call 108; exact quietV (HW.out _)))
    go_wp2
    go_ret
    exact ⟨rfl, b.trans (Bw.drawn ⟨⟨_, rfl⟩⟩)⟩

set_option maxHeartbeats 4000000 in
set_option maxRecDepth 100000 in
theorem impl_endOf (r l i : Int) (w : World) : Calls Try.prog 76 #[.agg #[.int .i64 r, .int .i64 l, .int .i64 i]] w fun e w' => e = .returned (.int .i64 (ceEnd ⟨r, l, i⟩)) ∧ Bw w w' := by
  have h1 := ceAt_range ⟨r, l, i⟩
  have h2 := wid_range l
  have e1 : IntKind.i64.wrap (ceAt ⟨r, l, i⟩ + wid l) = ceEnd ⟨r, l, i⟩ := i64w (by omega) (by omega)
  clear h1 h2
  have c0 := box_cell (Bw.refl (w.alloc (.cells #[.int .i64 r, .int .i64 l, .int .i64 i] 58))) 0
  have c1 := box_cell (Bw.refl (w.alloc (.cells #[.int .i64 r, .int .i64 l, .int .i64 i] 58))) 1
  have c2 := box_cell (Bw.refl (w.alloc (.cells #[.int .i64 r, .int .i64 l, .int .i64 i] 58))) 2
  have b0 := Bw.box1 w (.cells #[.int .i64 r, .int .i64 l, .int .i64 i] 58)
  simp only [List.getElem?_toArray, List.getElem?_cons_zero, List.getElem?_cons_succ] at c0 c1 c2
  go_enter Try.func76, Try.ntmps76
  go_wp2
  generalize (w.alloc (.cells #[.int .i64 r, .int .i64 l, .int .i64 i] 58)) = w0 at *
  go_region_held3 (fun w' => w'.cell? ⟨w.heap.size, 0, none⟩ = some (.int .i64 r) ∧ w'.cell? ⟨w.heap.size, 1, none⟩ = some (.int .i64 l) ∧ w'.cell? ⟨w.heap.size, 2, none⟩ = some (.int .i64 i)) (first | go_keep | (go_split_ands; exact ⟨pw_cell_below b.out (by assumption), pw_cell_below b.out (by assumption), pw_cell_below b.out (by assumption)⟩)) ((first | (go_at_call 75; refine (impl_StartOf r l i _).mono ?_; rintro e w' ⟨rfl, b⟩) | (go_at_call 99; refine (impl_WidthOf l _).mono ?_; rintro e w' ⟨rfl, rfl⟩)))
  all_goals
    go_wp2
    go_ret
    exact ⟨rfl, b0.trans ((Bw.drawn ⟨⟨1, rfl⟩⟩).trans b)⟩
set_option maxHeartbeats 4000000 in
set_option maxRecDepth 100000 in
theorem spec_l04End (r l i : Int) (w : World) : Calls Try.prog 97 #[.agg #[.int .i64 r, .int .i64 l, .int .i64 i]] w fun e w' => e = .returned (.int .i64 (ceEnd ⟨r, l, i⟩)) ∧ Bw w w' := by
  have h1 := ceAt_range ⟨r, l, i⟩
  have h2 := wid_range l
  have e1 : IntKind.i64.wrap (ceAt ⟨r, l, i⟩ + wid l) = ceEnd ⟨r, l, i⟩ := i64w (by omega) (by omega)
  clear h1 h2
  have c0 := box_cell (Bw.refl (w.alloc (.cells #[.int .i64 r, .int .i64 l, .int .i64 i] 58))) 0
  have c1 := box_cell (Bw.refl (w.alloc (.cells #[.int .i64 r, .int .i64 l, .int .i64 i] 58))) 1
  have c2 := box_cell (Bw.refl (w.alloc (.cells #[.int .i64 r, .int .i64 l, .int .i64 i] 58))) 2
  have b0 := Bw.box1 w (.cells #[.int .i64 r, .int .i64 l, .int .i64 i] 58)
  simp only [List.getElem?_toArray, List.getElem?_cons_zero, List.getElem?_cons_succ] at c0 c1 c2
  go_enter Try.func97, Try.ntmps97
  go_wp2
  generalize (w.alloc (.cells #[.int .i64 r, .int .i64 l, .int .i64 i] 58)) = w0 at *
  go_region_held3 (fun w' => w'.cell? ⟨w.heap.size, 0, none⟩ = some (.int .i64 r) ∧ w'.cell? ⟨w.heap.size, 1, none⟩ = some (.int .i64 l) ∧ w'.cell? ⟨w.heap.size, 2, none⟩ = some (.int .i64 i)) (first | go_keep | (go_split_ands; exact ⟨pw_cell_below b.out (by assumption), pw_cell_below b.out (by assumption), pw_cell_below b.out (by assumption)⟩)) ((first | (go_at_call 96; refine (spec_StartOf r l i _).mono ?_; rintro e w' ⟨rfl, b⟩) | (go_at_call 108; refine (spec_WidthOf l _).mono ?_; rintro e w' ⟨rfl, rfl⟩)))
  all_goals
    go_wp2
    go_ret
    exact ⟨rfl, b0.trans ((Bw.drawn ⟨⟨1, rfl⟩⟩).trans b)⟩
end Go.Proofs.Ytaidbdogolhnjaa.U
set_option linter.unusedVariables false
set_option linter.unusedSimpArgs false
namespace Go.Proofs.Ytaidbdogolhnjaa.U
open Go.RowKit Go.Lib Go.Proofs.YtaidbdogolhnjaaW.PrintWords

/-- a slice of cells that is read -/
structure IdR (w : World) (A : Option Addr) (n : Nat) (l : List Ce) : Prop where mk :: (out : ReadsRow (fun (p : Ce) c => c = [.int .i64 p.r, .int .i64 p.l, .int .i64 p.i]) 3 w A n l)
def cz : Ce := ⟨0, 0, 0⟩
def gc (l : List Ce) (j : Nat) : Ce := l.getD j cz
theorem gc_at {l : List Ce} {j : Nat} (h : j < l.length) : gc l j = l[j] := by rw [gc, List.getD_eq_getElem?_getD, List.getElem?_eq_getElem h]; rfl
theorem IdR.len {w : World} {A : Option Addr} {n : Nat} {l : List Ce} (h : IdR w A n l) : l.length = n := h.out.1
theorem IdR.max {w : World} {A : Option Addr} {n : Nat} {l : List Ce} (h : IdR w A n l) : n ≤ 9223372036854775807 := h.out.2.1
theorem IdR.to {w w' : World} {A : Option Addr} {n : Nat} {l : List Ce} (h : IdR w A n l) (b : Bw w w') : IdR w' A n l := ⟨h.out.imp_ b.out fun _ _ k => k⟩
theorem IdR.at {w : World} {A : Option Addr} {n : Nat} {l : List Ce} (h : IdR w A n l) (j : Nat) (hj : j < n) :
    ∃ ad, A = some ad ∧ w.cell? (ad.add (j * 3)) = some (.int .i64 (gc l j).r) ∧ w.cell? ⟨(ad.add (j * 3)).block, (ad.add (j * 3)).off + 1, none⟩ = some (.int .i64 (gc l j).l) ∧ w.cell? ⟨(ad.add (j * 3)).block, (ad.add (j * 3)).off + 2, none⟩ = some (.int .i64 (gc l j).i) := by
  obtain ⟨ad, c, e, _, rfl, hc⟩ := h.out.get_ cz (j : Int) (by omega) (by omega)
  rw [Int.toNat_natCast] at hc
  exact ⟨ad, e, by have := hc 0 _ rfl; rwa [Nat.add_zero] at this, by have := hc 1 _ rfl; rwa [add_field _ _ _ (by omega)] at this, by have := hc 2 _ rfl; rwa [add_field _ _ _ (by omega)] at this⟩
def meshEnd : List Ce → Int → Option Int
  | [], a => some a
  | x :: xs, a => if ceOk x = true ∧ ceAt x = a then meshEnd xs (ceEnd x) else none
def endIs (ro : Int) : Option Int → Bool
  | none => false
  | some a => inR ro 1 8 && decide (a = ro * 16)
theorem endIs_some {ro a : Int} (h : inR ro 1 8 = true) : endIs ro (some a) = (a == ro * 16) := by rw [endIs, h, Bool.true_and]; rfl
def meshOk (ro : Int) (l : List Ce) : Bool := endIs ro (meshEnd l 0)
theorem meshEnd_drop {l : List Ce} {j : Nat} (h : j < l.length) (a : Int) : meshEnd (l.drop j) a = if ceOk (gc l j) = true ∧ ceAt (gc l j) = a then meshEnd (l.drop (j + 1)) (ceEnd (gc l j)) else none := by
  rw [List.drop_eq_getElem_cons h, meshEnd, gc_at h]
set_option maxHeartbeats 4000000 in
set_option maxRecDepth 100000 in
theorem impl_MeshOk (ro : Int) (A : Option Addr) (n c : Nat) (l : List Ce) (w : World) (r : IdR w A n l) : Calls Try.prog 45 #[.agg #[.int .i64 ro, .slice A n c]] w fun e w' => e = .returned (.bool (meshOk ro l)) ∧ Bw w w' := by
  have hmax := r.max
  have HL := hid r.len
  have b0 := Bw.box1 w (.cells #[.int .i64 ro, .slice A n c] 26)
  have c0 := box_cell (Bw.refl (w.alloc (.cells #[.int .i64 ro, .slice A n c] 26))) 0
  have c1 := box_cell (Bw.refl (w.alloc (.cells #[.int .i64 ro, .slice A n c] 26))) 1
  simp only [List.getElem?_toArray, List.getElem?_cons_zero, List.getElem?_cons_succ] at c0 c1
  obtain ⟨R, HR⟩ : ∃ R, Hid (R = meshEnd l 0) := ⟨_, hid rfl⟩
  rw [meshOk, ← HR.out]
  go_enter Try.func45, Try.ntmps45
  go_wp2
  generalize (w.alloc (.cells #[.int .i64 ro, .slice A n c] 26)) = w0 at *
  go_loopw [3, 9] (fun v3 v9 wr => ∃ (j : Nat) (a : Int), j ≤ n ∧ v3 = .int .i64 a ∧ v9 = .int .i64 j ∧ Hid (R = meshEnd (l.drop j) a) ∧ Bw w0 wr) (fun _ v9 _ => n - (intOf v9).toNat)
  case atStart => exact ⟨0, 0, by omega, rfl, rfl, HR, Bw.refl _⟩
  case round =>
    obtain ⟨j, a, hj, rfl, rfl, hE, hB⟩ := hrel
    replace c0 := pw_cell_below hB.out c0
    replace c1 := pw_cell_below hB.out c1
    by_cases hlt : j < n
    · have t1 : decide ((j : Int) < (n : Int)) = true := decide_eq_true (by omega)
      have hnext := hid (meshEnd_drop (l := l) (by rw [HL.out]; exact hlt) a)
      obtain ⟨ad, rfl, x0, x1, x2⟩ := ((r.to b0).to hB).at j hlt
      generalize gc l j = x at *
      obtain ⟨xr, xl, xi⟩ := x
      simp only at x0 x1 x2
      cases hk : ceOk ⟨xr, xl, xi⟩ with
      | false =>
        have hR : Hid (R = none) := hid (by rw [hE.out, hnext.out, if_neg (by rw [hk]; simp)])
        have HK := hid hk
        clear hk hnext hE HR
        go_wp2_with fail
        refine (impl_IdOk _ _ _ _).mono ?_
        rintro e w1 ⟨rfl, b1⟩
        rw [HK.out]
        go_wp2
        go_ret
        exact ⟨by rw [hR.out]; rfl, (b0.trans hB).trans ((Bw.box1 _ _).trans b1)⟩
      | true =>
        have HK := hid hk
        clear hk
        go_wp2_with fail
        refine (impl_IdOk _ _ _ _).mono ?_
        rintro e w1 ⟨rfl, b1⟩
        rw [HK.out]
        have y0 := box_cell b1 0
        have y1 := box_cell b1 1
        have y2 := box_cell b1 2
        simp only [List.getElem?_toArray, List.getElem?_cons_zero, List.getElem?_cons_succ] at y0 y1 y2
        replace b1 := (Bw.box1 _ _).trans b1
        go_wp2_with fail
        refine (impl_StartOf _ _ _ _).mono ?_
        rintro e w2 ⟨rfl, b2⟩
        replace y0 := pw_cell_below b2.out y0
        replace y1 := pw_cell_below b2.out y1
        replace y2 := pw_cell_below b2.out y2
        replace b1 := b1.trans b2
        clear b2
        by_cases ha : ceAt ⟨xr, xl, xi⟩ = a
        · have hR : Hid (R = meshEnd (l.drop (j + 1)) (ceEnd ⟨xr, xl, xi⟩)) := hid (by rw [hE.out, hnext.out, if_pos ⟨HK.out, ha⟩])
          have t2 : (ceAt ⟨xr, xl, xi⟩ != a) = false := by simp [ha]
          clear ha hnext hE HR
          go_wp2_with fail
          refine (impl_endOf _ _ _ _).mono ?_
          rintro e w3 ⟨rfl, b3⟩
          go_wp2
          go_roundw
          case rel => exact ⟨j + 1, _, by omega, rfl, by go_num, hR, hB.trans (b1.trans b3)⟩
          case measure => simp [intOf]; omega
        · have hR : Hid (R = none) := hid (by rw [hE.out, hnext.out, if_neg (fun h => ha h.2)])
          have t2 : (ceAt ⟨xr, xl, xi⟩ != a) = true := by simp [ha]
          clear ha hnext hE HR
          go_wp2
          go_ret
          exact ⟨by rw [hR.out]; rfl, (b0.trans hB).trans b1⟩
    · obtain rfl : j = n := by omega
      have t1 : decide ((j : Int) < (j : Int)) = false := decide_eq_false (by omega)
      have hR : Hid (R = some a) := hid (by rw [hE.out, List.drop_of_length_le (by rw [HL.out]; exact Nat.le_refl _)]; rfl)
      clear hE HR
      cases hk : inR ro 1 8 with
      | false =>
        have HK := hid hk
        clear hk
        go_wp2_with fail
        refine (toBool (within _ _ _ _) HK.out).mono ?_
        rintro e w1 ⟨rfl, rfl⟩
        go_wp2
        go_ret
        exact ⟨by rw [hR.out, endIs, HK.out]; rfl, b0.trans hB⟩
      | true =>
        have hro := inR_iff.1 hk
        have HK := hid hk
        clear hk
        go_wp2_with fail
        refine (toBool (within _ _ _ _) HK.out).mono ?_
        rintro e w1 ⟨rfl, rfl⟩
        go_wp2
        go_ret
        exact ⟨ret_bool (by rw [hR.out]; exact (endIs_some HK.out).symm), b0.trans hB⟩
set_option maxHeartbeats 4000000 in
set_option maxRecDepth 100000 in
theorem spec_MeshOk (ro : Int) (A : Option Addr) (n c : Nat) (l : List Ce) (w : World) (r : IdR w A n l) : Calls Try.prog 66 #[.agg #[.int .i64 ro, .slice A n c]] w fun e w' => e = .returned (.bool (meshOk ro l)) ∧ Bw w w' := by
  have hmax := r.max
  have HL := hid r.len
  have b0 := Bw.box1 w (.cells #[.int .i64 ro, .slice A n c] 26)
  have c0 := box_cell (Bw.refl (w.alloc (.cells #[.int .i64 ro, .slice A n c] 26))) 0
  have c1 := box_cell (Bw.refl (w.alloc (.cells #[.int .i64 ro, .slice A n c] 26))) 1
  simp only [List.getElem?_toArray, List.getElem?_cons_zero, List.getElem?_cons_succ] at c0 c1
  obtain ⟨R, HR⟩ : ∃ R, Hid (R = meshEnd l 0) := ⟨_, hid rfl⟩
  rw [meshOk, ← HR.out]
  go_enter Try.func66, Try.ntmps66
  go_wp2
  generalize (w.alloc (.cells #[.int .i64 ro, .slice A n c] 26)) = w0 at *
  go_loopw [3, 4] (fun v3 v9 wr => ∃ (j : Nat) (a : Int), j ≤ n ∧ v3 = .int .i64 a ∧ v9 = .int .i64 j ∧ Hid (R = meshEnd (l.drop j) a) ∧ Bw w0 wr) (fun _ v9 _ => n - (intOf v9).toNat)
  case atStart => exact ⟨0, 0, by omega, rfl, rfl, HR, Bw.refl _⟩
  case round =>
    obtain ⟨j, a, hj, rfl, rfl, hE, hB⟩ := hrel
    replace c0 := pw_cell_below hB.out c0
    replace c1 := pw_cell_below hB.out c1
    by_cases hlt : j < n
    · have t1 : decide ((j : Int) < (n : Int)) = true := decide_eq_true (by omega)
      have hnext := hid (meshEnd_drop (l := l) (by rw [HL.out]; exact hlt) a)
      obtain ⟨ad, rfl, x0, x1, x2⟩ := ((r.to b0).to hB).at j hlt
      generalize gc l j = x at *
      obtain ⟨xr, xl, xi⟩ := x
      simp only at x0 x1 x2
      cases hk : ceOk ⟨xr, xl, xi⟩ with
      | false =>
        have hR : Hid (R = none) := hid (by rw [hE.out, hnext.out, if_neg (by rw [hk]; simp)])
        have HK := hid hk
        clear hk hnext hE HR
        go_wp2_with fail
        refine (spec_IdOk _ _ _ _).mono ?_
        rintro e w1 ⟨rfl, b1⟩
        rw [HK.out]
        go_wp2
        go_ret
        exact ⟨by rw [hR.out]; rfl, (b0.trans hB).trans b1⟩
      | true =>
        have HK := hid hk
        clear hk
        go_wp2_with fail
        refine (spec_IdOk _ _ _ _).mono ?_
        rintro e w1 ⟨rfl, b1⟩
        rw [HK.out]
        replace c0 := pw_cell_below b1.out c0
        replace c1 := pw_cell_below b1.out c1
        replace x0 := pw_cell_below b1.out x0
        replace x1 := pw_cell_below b1.out x1
        replace x2 := pw_cell_below b1.out x2
        go_wp2_with fail
        refine (spec_StartOf _ _ _ _).mono ?_
        rintro e w2 ⟨rfl, b2⟩
        replace c0 := pw_cell_below b2.out c0
        replace c1 := pw_cell_below b2.out c1
        replace x0 := pw_cell_below b2.out x0
        replace x1 := pw_cell_below b2.out x1
        replace x2 := pw_cell_below b2.out x2
        replace b1 := b1.trans b2
        clear b2
        by_cases ha : ceAt ⟨xr, xl, xi⟩ = a
        · have hR : Hid (R = meshEnd (l.drop (j + 1)) (ceEnd ⟨xr, xl, xi⟩)) := hid (by rw [hE.out, hnext.out, if_pos ⟨HK.out, ha⟩])
          have t2 : (ceAt ⟨xr, xl, xi⟩ != a) = false := by simp [ha]
          clear ha hnext hE HR
          go_wp2_with fail
          refine (spec_l04End _ _ _ _).mono ?_
          rintro e w3 ⟨rfl, b3⟩
          go_wp2
          go_roundw
          case rel => exact ⟨j + 1, _, by omega, rfl, by go_num, hR, hB.trans (b1.trans b3)⟩
          case measure => simp [intOf]; omega
        · have hR : Hid (R = none) := hid (by rw [hE.out, hnext.out, if_neg (fun h => ha h.2)])
          have t2 : (ceAt ⟨xr, xl, xi⟩ != a) = true := by simp [ha]
          clear ha hnext hE HR
          go_wp2
          go_ret
          exact ⟨by rw [hR.out]; rfl, (b0.trans hB).trans b1⟩
    · obtain rfl : j = n := by omega
      have t1 : decide ((j : Int) < (j : Int)) = false := decide_eq_false (by omega)
      have hR : Hid (R = some a) := hid (by rw [hE.out, List.drop_of_length_le (by rw [HL.out]; exact Nat.le_refl _)]; rfl)
      clear hE HR
      cases hk : inR ro 1 8 with
      | false =>
        have HK := hid hk
        clear hk
        go_wp2_with fail
        refine (toBool (l01In _ _ _ _) HK.out).mono ?_
        rintro e w1 ⟨rfl, rfl⟩
        go_wp2
        go_ret
        exact ⟨by rw [hR.out, endIs, HK.out]; rfl, b0.trans hB⟩
      | true =>
        have hro := inR_iff.1 hk
        have HK := hid hk
        clear hk
        go_wp2_with fail
        refine (toBool (l01In _ _ _ _) HK.out).mono ?_
        rintro e w1 ⟨rfl, rfl⟩
        go_wp2
        go_ret
        exact ⟨ret_bool (by rw [hR.out]; exact (endIs_some HK.out).symm), b0.trans hB⟩
/-- the first leaf from j on whose right neighbour differs by more than a level, -1 if there is none (d: leaves left) -/
def firstUn (l : List Ce) : Nat → Nat → Int
  | 0, _ => -1
  | d + 1, j => if j + 1 < l.length then (if (gc l j).l - (gc l (j + 1)).l > 1 ∨ (gc l j).l - (gc l (j + 1)).l < -1 then (j : Int) else firstUn l d (j + 1)) else -1
def unbal (l : List Ce) : Int := firstUn l l.length 0
def isBal (ro : Int) (l : List Ce) : Bool := meshOk ro l && decide (unbal l < 0)
/-- every leaf's level is one -/
structure Lvs (l : List Ce) : Prop where mk :: (out : ∀ j, j < l.length → 0 ≤ (gc l j).l ∧ (gc l j).l ≤ 4)
theorem meshEnd_lvs : ∀ (l : List Ce) (a b : Int), meshEnd l a = some b → ∀ x ∈ l, ceOk x = true
  | [], _, _, _, x, hx => by simp at hx
  | y :: ys, a, b, h, x, hx => by
    rw [meshEnd] at h
    split at h
    · rename_i hy
      rcases List.mem_cons.1 hx with rfl | hx
      · exact hy.1
      · exact meshEnd_lvs ys _ _ h x hx
    · cases h
theorem meshOk_all {ro : Int} {l : List Ce} (h : meshOk ro l = true) : ∀ x ∈ l, ceOk x = true := by
  unfold meshOk at h
  cases he : meshEnd l 0 with
  | none => rw [he] at h; cases h
  | some a => exact meshEnd_lvs l 0 a he
theorem gc_mem {l : List Ce} {j : Nat} (h : j < l.length) : gc l j ∈ l := by rw [gc_at h]; exact List.getElem_mem h
theorem meshOk_lvs {ro : Int} {l : List Ce} (h : meshOk ro l = true) : Lvs l := ⟨fun j hj => (ceOk_facts (meshOk_all h _ (gc_mem hj))).2.1⟩
end Go.Proofs.Ytaidbdogolhnjaa.U
