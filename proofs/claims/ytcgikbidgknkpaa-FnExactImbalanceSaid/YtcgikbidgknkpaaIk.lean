
/- Cells: validity, width, start and end, by the program and by the reference. -/
import Derived.Test.YtcgikbidgknkpaaAp
import Derived.Test.YtcgikbidgknkpaaWMore
import Derived.Deep.QuietTactic
import Derived.BigQuiet
import Derived.Deep.RegionHeld3
set_option linter.unusedVariables false
set_option linter.unusedSimpArgs false
namespace Go.Proofs.Ytcgikbidgknkpaa.U
open Go.RowKit Go.Lib Go.Proofs.YtcgikbidgknkpaaW.PrintWords

/-- a cell: root, level, index -/
structure Ce where
  r : Int
  l : Int
  i : Int
deriving DecidableEq, Repr
def pow2 (l : Int) : Int := if l = 0 then 1 else if l = 1 then 2 else if l = 2 then 4 else if l = 3 then 8 else if l = 4 then 16 else 1
def wid (l : Int) : Int := if l = 0 then 16 else if l = 1 then 8 else if l = 2 then 4 else if l = 3 then 2 else if l = 4 then 1 else 0
def ceOk (x : Ce) : Bool := inR x.r 0 7 && inR x.l 0 4 && inR x.i 0 (pow2 x.l - 1)
def ceAt (x : Ce) : Int := if ceOk x = true then x.r * 16 + x.i * wid x.l else -1
def ceEnd (x : Ce) : Int := ceAt x + wid x.l
theorem lvl5 {l : Int} (h : inR l 0 4 = true) : l = 0 ∨ l = 1 ∨ l = 2 ∨ l = 3 ∨ l = 4 := by have := inR_iff.1 h; omega
theorem wid_range (l : Int) : 0 ≤ wid l ∧ wid l ≤ 16 := by unfold wid; (repeat' split) <;> omega
theorem pow2_range (l : Int) : 1 ≤ pow2 l ∧ pow2 l ≤ 16 := by unfold pow2; (repeat' split) <;> omega
theorem ceOk_facts {x : Ce} (h : ceOk x = true) : (0 ≤ x.r ∧ x.r ≤ 7) ∧ (0 ≤ x.l ∧ x.l ≤ 4) ∧ (0 ≤ x.i ∧ x.i ≤ 15) ∧ x.i < pow2 x.l := by
  simp only [ceOk, Bool.and_eq_true, inR_iff] at h
  have := pow2_range x.l
  omega
theorem ceAt_range (x : Ce) : -1 ≤ ceAt x ∧ ceAt x ≤ 400 := by
  unfold ceAt
  split
  · rename_i h
    have h1 := ceOk_facts h
    have h2 := wid_range x.l
    have h3 := Int.mul_nonneg h1.2.2.1.1 h2.1
    have h4 := Int.mul_le_mul h1.2.2.1.2 h2.2 h2.1 (by omega)
    omega
  · omega
theorem isLevel (n : Int) (w : World) : Calls Try.prog 109 #[.int .i64 n] w fun e w' => e = .returned (.bool (inR n 0 4)) ∧ w = w' := by
  go_enter Try.func109, Try.ntmps109
  go_wp2_with fail
  refine (within _ _ _ _).mono ?_
  rintro e w' ⟨rfl, rfl⟩
  go_wp2
  go_ret
  exact ⟨rfl, rfl⟩
theorem impl_WidthOf (n : Int) (w : World) : Calls Try.prog 110 #[.int .i64 n] w fun e w' => e = .returned (.int .i64 (wid n)) ∧ w = w' := by
  cases h : inR n 0 4 with
  | false =>
    have h2 := inR_false h
    rw [show wid n = 0 by unfold wid; rw [if_neg (by omega), if_neg (by omega), if_neg (by omega), if_neg (by omega), if_neg (by omega)]]
    have H := hid h; clear h h2
    go_enter Try.func110, Try.ntmps110
    go_wp2_with fail
    refine (isLevel _ _).mono ?_
    rintro e w' ⟨rfl, rfl⟩
    rw [H.out]
    go_wp2
    go_ret
    exact ⟨rfl, rfl⟩
  | true =>
    have lv := lvl5 h
    have H := hid h; clear h
    rcases lv with rfl | rfl | rfl | rfl | rfl
    all_goals
      go_enter Try.func110, Try.ntmps110
      go_wp2_with fail
      refine (isLevel _ _).mono ?_
      rintro e w' ⟨rfl, rfl⟩
      rw [H.out]
      go_wp2
      go_ret
      exact ⟨rfl, rfl⟩
theorem spec_WidthOf (n : Int) (w : World) : Calls Try.prog 108 #[.int .i64 n] w fun e w' => e = .returned (.int .i64 (wid n)) ∧ w = w' := by
  cases h : inR n 0 4 with
  | false =>
    have h2 := inR_false h
    rw [show wid n = 0 by unfold wid; rw [if_neg (by omega), if_neg (by omega), if_neg (by omega), if_neg (by omega), if_neg (by omega)]]
    have H := hid h; clear h h2
    go_enter Try.func108, Try.ntmps108
    go_wp2_with fail
    refine (l01In _ _ _ _).mono ?_
    rintro e w' ⟨rfl, rfl⟩
    rw [H.out]
    go_wp2
    go_ret
    exact ⟨rfl, rfl⟩
  | true =>
    have lv := lvl5 h
    have H := hid h; clear h
    rcases lv with rfl | rfl | rfl | rfl | rfl
    all_goals
      go_enter Try.func108, Try.ntmps108
      go_wp2_with fail
      refine (l01In _ _ _ _).mono ?_
      rintro e w' ⟨rfl, rfl⟩
      rw [H.out]
      go_wp2
      go_ret
      exact ⟨rfl, rfl⟩
theorem quietB {P : Program} {f : FuncId} {args : Array Value} {w : World} {n : Nat} {b c : Bool} (h : Calls P f args (w.drewN n) fun e w' => e = .returned (.bool b) ∧ w.drewN n = w') (e0 : b = c) : Calls P f args (w.drewN n) fun e w'' => e = .returned (.bool c) ∧ ∃ m, w'' = w.drewN m :=
  Calls.quiet_of_same (h.mono fun e w' h => ⟨by rw [← e0]; exact h.1, h.2.symm⟩)
theorem quietV {P : Program} {f : FuncId} {args : Array Value} {w : World} {n : Nat} {v : Value} (h : Calls P f args (w.drewN n) fun e w' => e = .returned v ∧ w.drewN n = w') : Calls P f args (w.drewN n) fun e w'' => e = .returned v ∧ ∃ m, w'' = w.drewN m :=
  Calls.quiet_of_same (h.mono fun e w' h => ⟨h.1, h.2.symm⟩)
/-- behind a box and some draws -/
theorem Bw.boxN (w : World) (o : Obj) (n : Nat) : Bw w ((w.alloc o).drewN n) := ((Bw.refl w).alloc o).trans (Bw.drawn ⟨⟨n, rfl⟩⟩)
theorem Bw.box1 (w : World) (o : Obj) : Bw w (w.alloc o) := (Bw.refl w).alloc o
set_option maxHeartbeats 2000000 in
set_option maxRecDepth 100000 in
theorem impl_IdOk (r l i : Int) (w : World) : Calls Try.prog 100 #[.agg #[.int .i64 r, .int .i64 l, .int .i64 i]] w fun e w' => e = .returned (.bool (ceOk ⟨r, l, i⟩)) ∧ Bw w w' := by
  cases h1 : inR r 0 7 with
  | false =>
    rw [show ceOk ⟨r, l, i⟩ = false by simp [ceOk, h1]]
    go_enter Try.func100, Try.ntmps100
    go_wp2
    go_quiet ((first | (go_at_call 69; exact quietV (within _ _ _ _)) | (go_at_call 109; exact quietV (isLevel _ _))))
    go_wp2
    go_ret
    exact ⟨rfl, Bw.boxN _ _ _⟩
  | true =>
    cases h2 : inR l 0 4 with
    | false =>
      rw [show ceOk ⟨r, l, i⟩ = false by simp [ceOk, h2]]
      go_enter Try.func100, Try.ntmps100
      go_wp2
      go_quiet ((first | (go_at_call 69; exact quietV (within _ _ _ _)) | (go_at_call 109; exact quietV (isLevel _ _))))
      go_wp2
      go_ret
      exact ⟨rfl, Bw.boxN _ _ _⟩
    | true =>
      have lv := lvl5 h2
      have e : ceOk ⟨r, l, i⟩ = inR i 0 (pow2 l - 1) := by simp [ceOk, h1, h2]
      rw [e]
      clear e
      rcases lv with rfl | rfl | rfl | rfl | rfl
      all_goals
        go_enter Try.func100, Try.ntmps100
        go_wp2
        go_quiet ((first | (go_at_call 69; exact quietV (within _ _ _ _)) | (go_at_call 109; exact quietV (isLevel _ _))))
        go_wp2
        go_ret
        exact ⟨rfl, Bw.boxN _ _ _⟩
set_option maxHeartbeats 2000000 in
set_option maxRecDepth 100000 in
theorem spec_IdOk (r l i : Int) (w : World) : Calls Try.prog 96 #[.agg #[.int .i64 r, .int .i64 l, .int .i64 i]] w fun e w' => e = .returned (.bool (ceOk ⟨r, l, i⟩)) ∧ Bw w w' := by
  cases h1 : inR r 0 7 with
  | false =>
    rw [show ceOk ⟨r, l, i⟩ = false by simp [ceOk, h1]]
    have H := hid h1; clear h1
    go_enter Try.func96, Try.ntmps96
    go_wp2_with fail
    refine (toBool (l01In _ _ _ _) H.out).mono ?_
    rintro e w' ⟨rfl, rfl⟩
    go_wp2
    go_ret
    exact ⟨rfl, Bw.box1 _ _⟩
  | true =>
    have H1 := hid h1
    cases h2 : inR l 0 4 with
    | false =>
      rw [show ceOk ⟨r, l, i⟩ = false by simp [ceOk, h2]]
      have H := hid h2; clear h2 h1
      go_enter Try.func96, Try.ntmps96
      go_wp2_with fail
      refine (toBool (l01In _ _ _ _) H1.out).mono ?_
      rintro e w' ⟨rfl, rfl⟩
      go_wp2_with fail
      refine (toBool (l01In _ _ _ _) H.out).mono ?_
      rintro e w' ⟨rfl, rfl⟩
      go_wp2
      go_ret
      exact ⟨rfl, Bw.box1 _ _⟩
    | true =>
      have lv := lvl5 h2
      have H2 := hid h2
      have e : ceOk ⟨r, l, i⟩ = inR i 0 (pow2 l - 1) := by simp [ceOk, h1, h2]
      rw [e]
      clear e h1 h2
      by_cases h4 : 0 ≤ i
      · have t1 : decide (i ≥ 0) = true := decide_eq_true h4
        rcases lv with rfl | rfl | rfl | rfl | rfl
        all_goals
          have hr : ∀ n : Int, decide (i < n) = inR i 0 (n - 1) := fun n => by rw [Bool.eq_iff_iff, inR_iff, decide_eq_true_iff]; omega
          have HR := hid hr
          clear h4 hr
          go_enter Try.func96, Try.ntmps96
          go_wp2_with fail
          refine (toBool (l01In _ _ _ _) H1.out).mono ?_
          rintro e w' ⟨rfl, rfl⟩
          go_wp2_with fail
          refine (toBool (l01In _ _ _ _) H2.out).mono ?_
          rintro e w' ⟨rfl, rfl⟩
          go_wp2
          go_ret
          exact ⟨ret_bool (HR.out _), Bw.box1 _ _⟩
      · have t1 : decide (i ≥ 0) = false := decide_eq_false h4
        have hr : inR i 0 (pow2 l - 1) = false := inR_no (by omega)
        rw [hr]
        clear h4 hr
        rcases lv with rfl | rfl | rfl | rfl | rfl
        all_goals
          go_enter Try.func96, Try.ntmps96
          go_wp2_with fail
          refine (toBool (l01In _ _ _ _) H1.out).mono ?_
          rintro e w' ⟨rfl, rfl⟩
          go_wp2_with fail
          refine (toBool (l01In _ _ _ _) H2.out).mono ?_
          rintro e w' ⟨rfl, rfl⟩
          go_wp2
          go_ret
          exact ⟨rfl, Bw.box1 _ _⟩
/-- a box behind a call that turned nothing old -/
theorem box_cell {w w1 : World} {t : TypeId} {cs : Array Value} (b : Bw (w.alloc (.cells cs t)) w1) (i : Nat) : w1.cell? ⟨w.heap.size, i, none⟩ = cs[i]? := by
  have h : w1.heap[w.heap.size]? = some (.cells cs t (0, 0)) := (b.out.block _ (by simp)).trans (heap_alloc_new w _)
  exact blk_cell h i
set_option maxHeartbeats 2000000 in
set_option maxRecDepth 100000 in
theorem impl_StartOf (r l i : Int) (w : World) : Calls Try.prog 101 #[.agg #[.int .i64 r, .int .i64 l, .int .i64 i]] w fun e w' => e = .returned (.int .i64 (ceAt ⟨r, l, i⟩)) ∧ Bw w w' := by
  cases h : ceOk ⟨r, l, i⟩ with
  | false =>
    rw [show ceAt ⟨r, l, i⟩ = -1 by simp [ceAt, h]]
    have H := hid h; clear h
    go_enter Try.func101, Try.ntmps101
    go_wp2_with fail
    refine (impl_IdOk _ _ _ _).mono ?_
    rintro e w1 ⟨rfl, b⟩
    rw [H.out]
    go_wp2
    go_ret
    exact ⟨rfl, (Bw.box1 _ _).trans b⟩
  | true =>
    rw [show ceAt ⟨r, l, i⟩ = r * 16 + i * wid l by simp [ceAt, h]]
    have hf := ceOk_facts h
    have hw := wid_range l
    simp only at hf
    have m0 := Int.mul_nonneg hf.2.2.1.1 hw.1
    have m1 := Int.mul_le_mul hf.2.2.1.2 hw.2 hw.1 (by omega)
    have H := hid h; clear h
    have HW := hid (show ∀ w : World, Calls Try.prog 110 #[.int .i64 l] w fun e w' => e = .returned (.int .i64 (wid l)) ∧ w = w' from fun w => impl_WidthOf l w)
    have e1 : IntKind.i64.wrap (r * 16) = r * 16 := i64w (by omega) (by omega)
    have e2 : IntKind.i64.wrap (i * wid l) = i * wid l := i64w (by omega) (by omega)
    have e3 : IntKind.i64.wrap (r * 16 + i * wid l) = r * 16 + i * wid l := i64w (by omega) (by omega)
    clear m0 m1 hw hf
    go_enter Try.func101, Try.ntmps101
    go_wp2_with fail
    refine (impl_IdOk _ _ _ _).mono ?_
    rintro e w1 ⟨rfl, b⟩
    rw [H.out]
    have c0 := box_cell b 0
    have c1 := box_cell b 1
    have c2 := box_cell b 2
    replace b := (Bw.box1 _ _).trans b
    simp only [List.getElem?_toArray, List.getElem?_cons_zero, List.getElem?_cons_succ] at c0 c1 c2
    go_wp2
    go_quiet ((go_at_call 110; exact quietV (HW.out _)))
    go_wp2
    go_ret
    exact ⟨rfl, b.trans (Bw.drawn ⟨⟨_, rfl⟩⟩)⟩
set_option maxHeartbeats 2000000 in
set_option maxRecDepth 100000 in
theorem spec_StartOf (r l i : Int) (w : World) : Calls Try.prog 97 #[.agg #[.int .i64 r, .int .i64 l, .int .i64 i]] w fun e w' => e = .returned (.int .i64 (ceAt ⟨r, l, i⟩)) ∧ Bw w w' := by
  cases h : ceOk ⟨r, l, i⟩ with
  | false =>
    rw [show ceAt ⟨r, l, i⟩ = -1 by simp [ceAt, h]]
    have H := hid h; clear h
    go_enter Try.func97, Try.ntmps97
    go_wp2_with fail
    refine (spec_IdOk _ _ _ _).mono ?_
    rintro e w1 ⟨rfl, b⟩
    rw [H.out]
    go_wp2
    go_ret
    exact ⟨rfl, (Bw.box1 _ _).trans b⟩
  | true =>
    rw [show ceAt ⟨r, l, i⟩ = r * 16 + i * wid l by simp [ceAt, h]]
    have hf := ceOk_facts h
    have hw := wid_range l
    simp only at hf
    have m0 := Int.mul_nonneg hf.2.2.1.1 hw.1
    have m1 := Int.mul_le_mul hf.2.2.1.2 hw.2 hw.1 (by omega)
    have H := hid h; clear h
    have HW := hid (show ∀ w : World, Calls Try.prog 108 #[.int .i64 l] w fun e w' => e = .returned (.int .i64 (wid l)) ∧ w = w' from fun w => spec_WidthOf l w)
    have e1 : IntKind.i64.wrap (r * 16) = r * 16 := i64w (by omega) (by omega)
    have e2 : IntKind.i64.wrap (i * wid l) = i * wid l := i64w (by omega) (by omega)
    have e3 : IntKind.i64.wrap (r * 16 + i * wid l) = r * 16 + i * wid l := i64w (by omega) (by omega)
    clear m0 m1 hw hf
    go_enter Try.func97, Try.ntmps97
    go_wp2_with fail
    refine (spec_IdOk _ _ _ _).mono ?_
    rintro e w1 ⟨rfl, b⟩
    rw [H.out]
    have c0 := box_cell b 0
    have c1 := box_cell b 1
    have c2 := box_cell b 2
    replace b := (Bw.box1 _ _).trans b
    simp only [List.getElem?_toArray, List.getElem?_cons_zero, List.getElem?_cons_succ] at c0 c1 c2
    go_wp2
    go_quiet ((go_at_call 108; exact quietV (HW.out _)))
    go_wp2
    go_ret
    exact ⟨rfl, b.trans (Bw.drawn ⟨⟨_, rfl⟩⟩)⟩

set_option maxHeartbeats 4000000 in
set_option maxRecDepth 100000 in
theorem impl_endOf (r l i : Int) (w : World) : Calls Try.prog 102 #[.agg #[.int .i64 r, .int .i64 l, .int .i64 i]] w fun e w' => e = .returned (.int .i64 (ceEnd ⟨r, l, i⟩)) ∧ Bw w w' := by
  have h1 := ceAt_range ⟨r, l, i⟩
  have h2 := wid_range l
  have e1 : IntKind.i64.wrap (ceAt ⟨r, l, i⟩ + wid l) = ceEnd ⟨r, l, i⟩ := i64w (by omega) (by omega)
  clear h1 h2
  have c0 := box_cell (Bw.refl (w.alloc (.cells #[.int .i64 r, .int .i64 l, .int .i64 i] 84))) 0
  have c1 := box_cell (Bw.refl (w.alloc (.cells #[.int .i64 r, .int .i64 l, .int .i64 i] 84))) 1
  have c2 := box_cell (Bw.refl (w.alloc (.cells #[.int .i64 r, .int .i64 l, .int .i64 i] 84))) 2
  have b0 := Bw.box1 w (.cells #[.int .i64 r, .int .i64 l, .int .i64 i] 84)
  simp only [List.getElem?_toArray, List.getElem?_cons_zero, List.getElem?_cons_succ] at c0 c1 c2
  go_enter Try.func102, Try.ntmps102
  go_wp2
  generalize (w.alloc (.cells #[.int .i64 r, .int .i64 l, .int .i64 i] 84)) = w0 at *
  go_region_held3 (fun w' => w'.cell? ⟨w.heap.size, 0, none⟩ = some (.int .i64 r) ∧ w'.cell? ⟨w.heap.size, 1, none⟩ = some (.int .i64 l) ∧ w'.cell? ⟨w.heap.size, 2, none⟩ = some (.int .i64 i)) (first | go_keep | (go_split_ands; exact ⟨pw_cell_below b.out (by assumption), pw_cell_below b.out (by assumption), pw_cell_below b.out (by assumption)⟩)) ((first | (go_at_call 101; refine (impl_StartOf r l i _).mono ?_; rintro e w' ⟨rfl, b⟩) | (go_at_call 110; refine (impl_WidthOf l _).mono ?_; rintro e w' ⟨rfl, rfl⟩)))
  all_goals
    go_wp2
    go_ret
    exact ⟨rfl, b0.trans ((Bw.drawn ⟨⟨1, rfl⟩⟩).trans b)⟩
set_option maxHeartbeats 4000000 in
set_option maxRecDepth 100000 in
theorem spec_l04End (r l i : Int) (w : World) : Calls Try.prog 98 #[.agg #[.int .i64 r, .int .i64 l, .int .i64 i]] w fun e w' => e = .returned (.int .i64 (ceEnd ⟨r, l, i⟩)) ∧ Bw w w' := by
  have h1 := ceAt_range ⟨r, l, i⟩
  have h2 := wid_range l
  have e1 : IntKind.i64.wrap (ceAt ⟨r, l, i⟩ + wid l) = ceEnd ⟨r, l, i⟩ := i64w (by omega) (by omega)
  clear h1 h2
  have c0 := box_cell (Bw.refl (w.alloc (.cells #[.int .i64 r, .int .i64 l, .int .i64 i] 84))) 0
  have c1 := box_cell (Bw.refl (w.alloc (.cells #[.int .i64 r, .int .i64 l, .int .i64 i] 84))) 1
  have c2 := box_cell (Bw.refl (w.alloc (.cells #[.int .i64 r, .int .i64 l, .int .i64 i] 84))) 2
  have b0 := Bw.box1 w (.cells #[.int .i64 r, .int .i64 l, .int .i64 i] 84)
  simp only [List.getElem?_toArray, List.getElem?_cons_zero, List.getElem?_cons_succ] at c0 c1 c2
  go_enter Try.func98, Try.ntmps98
  go_wp2
  generalize (w.alloc (.cells #[.int .i64 r, .int .i64 l, .int .i64 i] 84)) = w0 at *
  go_region_held3 (fun w' => w'.cell? ⟨w.heap.size, 0, none⟩ = some (.int .i64 r) ∧ w'.cell? ⟨w.heap.size, 1, none⟩ = some (.int .i64 l) ∧ w'.cell? ⟨w.heap.size, 2, none⟩ = some (.int .i64 i)) (first | go_keep | (go_split_ands; exact ⟨pw_cell_below b.out (by assumption), pw_cell_below b.out (by assumption), pw_cell_below b.out (by assumption)⟩)) ((first | (go_at_call 97; refine (spec_StartOf r l i _).mono ?_; rintro e w' ⟨rfl, b⟩) | (go_at_call 108; refine (spec_WidthOf l _).mono ?_; rintro e w' ⟨rfl, rfl⟩)))
  all_goals
    go_wp2
    go_ret
    exact ⟨rfl, b0.trans ((Bw.drawn ⟨⟨1, rfl⟩⟩).trans b)⟩
end Go.Proofs.Ytcgikbidgknkpaa.U
