/- CutsOk of the program and of the reference answer the same at every number and list of whole numbers. -/
import Derived.Test.YtbjdohceapijjaaPFnExactCutsOkx2
set_option linter.unusedVariables false
namespace Go.Proofs.Ytbjdohceapijjaa.Pure
open Go.RowKit Go.Proofs.Ytbjdohceapijjaa.PFnExactCutsOk Go.Proofs.YtbjdohceapijjaaW.PrintWords Go.Proofs.YtbjdohceapijjaaW.PrintLast Go.Proofs.YtbjdohceapijjaaW.PrintMore

theorem w64 {x : Int} (h1 : -9223372036854775808 ≤ x) (h2 : x ≤ 9223372036854775807) : wrap64 x = x := by unfold wrap64; omega

theorem toIntS_l0 (x0 : List Int) (hn : x0.length ≤ 1048576) : ∀ (d i : Nat), i + d = x0.length → ∀ x3 : List Int, x3.length = x0.length → (∀ j, j < i → x3[j]? = x0[j]?) → Ev (fun k => laws_toIntS.l0 k x0 x3 (i : Int)) x0 := by
  intro d
  induction d with
  | zero =>
    intro i hi x3 hl he
    refine Ev.step (f := fun _ => some x3) (fun k => ?_) ?_
    · simp only [laws_toIntS.l0]; rw [if_neg (by omega)]
    · have : x3 = x0 := by
        apply List.ext_getElem?
        intro j
        by_cases hj : j < i
        · exact he j hj
        · rw [List.getElem?_eq_none (by omega), List.getElem?_eq_none (by omega)]
      rw [this]
      exact Ev.now _
  | succ d ih =>
    intro i hi x3 hl he
    refine Ev.step (f := fun k => laws_toIntS.l0 k x0 (x3.set i (rd x0 i)) ((i + 1 : Nat) : Int)) (fun k => ?_) (ih (i + 1) (by omega) _ (by simpa using hl) ?_)
    · simp only [laws_toIntS.l0]
      rw [if_pos (by omega), if_pos (by omega), if_pos (by omega), w64 (by omega) (by omega)]
      rfl
    · intro j hj
      rw [List.getElem?_set]
      by_cases hji : i = j
      · subst hji
        rw [if_pos rfl, if_pos (by omega)]
        simp [rd, List.getElem?_eq_getElem (show i < x0.length by omega)]
      · rw [if_neg hji]
        exact he j (by omega)
theorem toIntS_ev (l : List Int) (hn : l.length ≤ 1048576) : Ev (fun k => laws_toIntS.f k l) l := by
  refine Ev.congr (g := fun k => laws_toIntS.f k l) (fun k => ?_) (toIntS_l0 l hn l.length 0 (by omega) (List.replicate l.length 0) (by simp) (fun j hj => absurd hj (by omega)))
  unfold laws_toIntS.f
  rw [if_pos (by omega), if_pos (by omega)]
  rfl

theorem eqIntS_l0 (a : List Int) (hn : a.length ≤ 1048576) : ∀ (d i : Nat), i + d = a.length → Ev (fun k => laws_eqIntS.l0 k a a (i : Int)) true := by
  intro d
  induction d with
  | zero =>
    intro i hi
    refine Ev.step (f := fun _ => some true) (fun k => ?_) (Ev.now _)
    simp only [laws_eqIntS.l0]; rw [if_neg (by omega)]
  | succ d ih =>
    intro i hi
    refine Ev.step (f := fun k => laws_eqIntS.l0 k a a ((i + 1 : Nat) : Int)) (fun k => ?_) (ih (i + 1) (by omega))
    simp only [laws_eqIntS.l0]
    rw [if_pos (by omega), if_pos (by omega), if_pos (by omega), if_pos (show True from trivial), w64 (by omega) (by omega)]
    rfl
theorem eqIntS_ev (a : List Int) (hn : a.length ≤ 1048576) : Ev (fun k => laws_eqIntS.f k a a) true := by
  refine Ev.congr (g := fun k => laws_eqIntS.f k a a) (fun k => ?_) (eqIntS_l0 a hn a.length 0 (by omega))
  unfold laws_eqIntS.f
  rw [if_pos rfl]
  rfl

open Classical
/-- the rest of the list, from place i on, ascends -/
theorem spec_loop (l : List Int) (hn : l.length ≤ 1048576) : ∀ (d i : Nat), i + d = l.length → 1 ≤ i → Ev (fun k => spec_CutsOk.l0 k l (i : Int)) (decide (∀ j, i ≤ j → j < l.length → rd l (j - 1 : Nat) ≤ rd l j)) := by
  intro d
  induction d with
  | zero =>
    intro i hi h1
    refine Ev.step (f := fun _ => some true) (fun k => ?_) ?_
    · simp only [spec_CutsOk.l0]; rw [if_neg (by omega)]
    · rw [show decide (∀ j, i ≤ j → j < l.length → rd l (j - 1 : Nat) ≤ rd l j) = true from decide_eq_true (fun j h2 h3 => by omega)]
      exact Ev.now _
  | succ d ih =>
    intro i hi h1
    have hw : wrap64 ((i : Int) - 1) = ((i - 1 : Nat) : Int) := by rw [w64 (by omega) (by omega)]; omega
    by_cases h : rd l (i : Int) < rd l ((i - 1 : Nat) : Int)
    · refine Ev.step (f := fun _ => some false) (fun k => ?_) ?_
      · simp only [spec_CutsOk.l0]
        rw [hw, if_pos (by omega), if_pos (by omega), if_pos (by omega), if_pos (by omega), if_pos h]
      · rw [decide_eq_false (fun hh => by have := hh i (by omega) (by omega); omega)]
        exact Ev.now _
    · have e : decide (∀ j, i ≤ j → j < l.length → rd l (j - 1 : Nat) ≤ rd l j) = decide (∀ j, i + 1 ≤ j → j < l.length → rd l (j - 1 : Nat) ≤ rd l j) := by
        apply decide_eq_decide.2
        constructor
        · intro hh j h2 h3; exact hh j (by omega) h3
        · intro hh j h2 h3
          by_cases hj : j = i
          · subst hj; omega
          · exact hh j (by omega) h3
      rw [e]
      refine Ev.step (fun k => ?_) (ih (i + 1) (by omega) (by omega))
      simp only [spec_CutsOk.l0]
      rw [hw, if_pos (by omega), if_pos (by omega), if_pos (by omega), if_pos (by omega), if_neg h, w64 (by omega) (by omega)]
      rfl
theorem less_at (a b : Int) : cmp_Less_int.f a b = some (decide (a < b)) := by
  unfold cmp_Less_int.f cmp_isNaN_int.f; simp
theorem impl_loop (l : List Int) (hn : l.length ≤ 1048576) : ∀ (i : Nat), i < l.length → Ev (fun k => slices_IsSorted_int_int.l0 k l (i : Int)) (decide (∀ j, 1 ≤ j → j ≤ i → rd l (j - 1 : Nat) ≤ rd l j)) := by
  intro i
  induction i with
  | zero =>
    intro h1
    refine Ev.step (f := fun _ => some true) (fun k => ?_) ?_
    · simp only [slices_IsSorted_int_int.l0]; rw [if_neg (by omega)]
    · rw [decide_eq_true (fun j h2 h3 => by omega)]
      exact Ev.now _
  | succ i ih =>
    intro h1
    have hw : wrap64 (((i + 1 : Nat) : Int) - 1) = (i : Int) := by rw [w64 (by omega) (by omega)]; omega
    by_cases h : rd l ((i + 1 : Nat) : Int) < rd l (i : Int)
    · refine Ev.step (f := fun _ => some false) (fun k => ?_) ?_
      · simp only [slices_IsSorted_int_int.l0]
        rw [hw, if_pos (by omega), if_pos (by omega), if_pos (by omega), if_pos (by omega), if_pos (by omega), less_at, decide_eq_true h]
        rfl
      · rw [decide_eq_false (fun hh => by have := hh (i + 1) (by omega) (by omega); simp only [Nat.add_sub_cancel] at this; omega)]
        exact Ev.now _
    · have e : decide (∀ j, 1 ≤ j → j ≤ i + 1 → rd l (j - 1 : Nat) ≤ rd l j) = decide (∀ j, 1 ≤ j → j ≤ i → rd l (j - 1 : Nat) ≤ rd l j) := by
        apply decide_eq_decide.2
        constructor
        · intro hh j h2 h3; exact hh j (by omega) (by omega)
        · intro hh j h2 h3
          by_cases hj : j = i + 1
          · subst hj; simp only [Nat.add_sub_cancel]; omega
          · exact hh j (by omega) (by omega)
      rw [e]
      refine Ev.step (fun k => ?_) (ih (by omega))
      simp only [slices_IsSorted_int_int.l0]
      rw [hw, if_pos (by omega), if_pos (by omega), if_pos (by omega), if_pos (by omega), if_pos (by omega), less_at, decide_eq_false h]
      rfl
theorem within_b (n : Int) : impl_within.f n 2 17 = some (decide (2 ≤ n ∧ n ≤ 17)) := by
  unfold impl_within.f
  by_cases h : n ≥ 2
  · rw [if_pos h]; simp [show (2 : Int) ≤ n from h]
  · rw [if_neg h]; simp [show ¬ (2 : Int) ≤ n from h]
theorem in_b (n : Int) : spec_l01In.f n 2 17 = some (decide (2 ≤ n ∧ n ≤ 17)) := by
  unfold spec_l01In.f
  by_cases h : n ≥ 2
  · rw [if_pos h]; simp [show (2 : Int) ≤ n from h]
  · rw [if_neg h]; simp [show ¬ (2 : Int) ≤ n from h]
theorem cuts_same (n : Int) (l : List Int) (hn : l.length ≤ 1048576) : ∃ r, Ev (fun k => spec_CutsOk.f k n l) r ∧ Ev (fun k => impl_CutsOk.f k n l) r := by
  by_cases hl : 2 ≤ (l.length : Int) ∧ (l.length : Int) ≤ 17
  · have hw : wrap64 ((l.length : Int) - 1) = ((l.length - 1 : Nat) : Int) := by rw [w64 (by omega) (by omega)]; omega
    by_cases h0 : rd l 0 = 0
    · by_cases h1 : rd l ((l.length - 1 : Nat) : Int) = n
      · have e1 := spec_loop l hn (l.length - 1) 1 (by omega) (by omega)
        have e2 := impl_loop l hn (l.length - 1) (by omega)
        have e : decide (∀ j, 1 ≤ j → j < l.length → rd l (j - 1 : Nat) ≤ rd l j) = decide (∀ j, 1 ≤ j → j ≤ l.length - 1 → rd l (j - 1 : Nat) ≤ rd l j) :=
          decide_eq_decide.2 ⟨fun hh j h2 h3 => hh j h2 (by omega), fun hh j h2 h3 => hh j h2 (by omega)⟩
        rw [← e] at e2
        clear e
        generalize decide (∀ (j : Nat), 1 ≤ j → j < l.length → rd l (j - 1 : Nat) ≤ rd l j) = D at e1 e2
        refine ⟨D, ?_, ?_⟩
        rotate_left
        · refine Ev.congr (f := fun k => (slices_IsSorted_int_int.f k l).bind fun t => some t) (fun k => ?_) (Ev.bind (Ev.congr (fun k => ?_) e2) (Ev.now _))
          · unfold impl_CutsOk.f
            rw [within_b, decide_eq_true hl]
            simp only [Option.bind_some, if_true]
            rw [hw, if_pos (by omega), if_pos h0, if_pos (by omega), if_pos (by omega), if_pos h1]
          · unfold slices_IsSorted_int_int.f
            rw [hw]
        · refine Ev.congr (f := fun k => spec_CutsOk.j0 k l false) (fun k => ?_) (Ev.step (fun k => ?_) e1)
          · unfold spec_CutsOk.f
            rw [in_b, decide_eq_true hl]
            simp only [Option.bind_some, if_true]
            rw [hw, if_pos (by omega), if_pos h0, if_pos (by omega), if_pos (by omega)]
            simp [h1]
          · simp only [spec_CutsOk.j0]
            rw [if_neg (by decide)]
            rfl
      · refine ⟨false, Ev.congr (f := fun k => spec_CutsOk.j0 k l true) (fun k => ?_) (Ev.step (f := fun _ => some false) (fun k => ?_) (Ev.now _)), Ev.congr (f := fun _ => some false) (fun k => ?_) (Ev.now _)⟩
        · unfold spec_CutsOk.f
          rw [in_b, decide_eq_true hl]
          simp only [Option.bind_some, if_true]
          rw [hw, if_pos (by omega), if_pos h0, if_pos (by omega), if_pos (by omega), bne_iff_ne.mpr h1]
        · simp only [spec_CutsOk.j0]
          rw [if_pos trivial]
        · unfold impl_CutsOk.f
          rw [within_b, decide_eq_true hl]
          simp only [Option.bind_some, if_true]
          rw [hw, if_pos (by omega), if_pos h0, if_pos (by omega), if_pos (by omega), if_neg h1]
    · refine ⟨false, Ev.congr (f := fun k => spec_CutsOk.j0 k l true) (fun k => ?_) (Ev.step (f := fun _ => some false) (fun k => ?_) (Ev.now _)), Ev.congr (f := fun _ => some false) (fun k => ?_) (Ev.now _)⟩
      · unfold spec_CutsOk.f
        rw [in_b, decide_eq_true hl]
        simp only [Option.bind_some, if_true]
        rw [if_pos (by omega), if_neg h0]
      · simp only [spec_CutsOk.j0]
        rw [if_pos trivial]
      · unfold impl_CutsOk.f
        rw [within_b, decide_eq_true hl]
        simp only [Option.bind_some, if_true]
        rw [if_pos (by omega), if_neg h0]
  · refine ⟨false, Ev.congr (f := fun k => spec_CutsOk.j0 k l true) (fun k => ?_) (Ev.step (f := fun _ => some false) (fun k => ?_) (Ev.now _)), Ev.congr (f := fun _ => some false) (fun k => ?_) (Ev.now _)⟩
    · unfold spec_CutsOk.f
      rw [in_b, decide_eq_false hl]
      rfl
    · simp only [spec_CutsOk.j0]
      rw [if_pos trivial]
    · unfold impl_CutsOk.f
      rw [within_b, decide_eq_false hl]
      rfl
theorem FnExactCutsOk : laws_FnExactCutsOk.Pure := by
  intro n b _ _ _ _
  refine Ev.rounds (r := true) ?_
  unfold laws_FnExactCutsOk.f
  by_cases hb : (b.length : Int) > 1048576
  · simp only [if_pos hb]; exact Ev.now _
  simp only [if_neg hb]
  have tb := toIntS_ev b (by omega)
  have qb := eqIntS_ev b (by omega)
  obtain ⟨r, e1, e2⟩ := cuts_same n b (by omega)
  refine Ev.bind tb (Ev.bind e1 (Ev.bind tb (Ev.bind e2 ?_)))
  have hne : (r != r) = false := by cases r <;> rfl
  simp only [hne, Bool.false_eq_true, if_false]
  refine Ev.bind tb (Ev.bind qb ?_)
  simp only [if_true]
  exact Ev.now _

end Go.Proofs.Ytbjdohceapijjaa.Pure
