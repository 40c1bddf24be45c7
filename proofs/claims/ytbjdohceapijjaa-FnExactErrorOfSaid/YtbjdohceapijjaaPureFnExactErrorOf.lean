/- ErrorOf of the program and of the reference answer the same at every two lists of whole numbers. -/
import Derived.Test.YtbjdohceapijjaaPFnExactErrorOfx2
set_option linter.unusedVariables false
namespace Go.Proofs.Ytbjdohceapijjaa.Pure
open Go.RowKit Go.Proofs.Ytbjdohceapijjaa.PFnExactErrorOf Go.Proofs.YtbjdohceapijjaaW.PrintWords Go.Proofs.YtbjdohceapijjaaW.PrintLast Go.Proofs.YtbjdohceapijjaaW.PrintMore

theorem w64 {x : Int} (h1 : -9223372036854775808 ≤ x) (h2 : x ≤ 9223372036854775807) : wrap64 x = x := by unfold wrap64; omega

theorem toIntS_l0 (x0 : List Int) (hn : x0.length ≤ 1048576) : ∀ (d i : Nat), i + d = x0.length → ∀ x3 : List Int, x3.length = x0.length → (∀ j, j < i → x3[j]? = x0[j]?) → Ev (fun k => laws_toIntS.l0 k x0 x3 (i : Int)) x0 := by
  intro d
  induction d with
  | zero =>
    intro i hi x3 hl he
    refine Ev.step (f := fun _ => some x3) (fun k => ?_) ?_
    · simp only [laws_toIntS.l0]; rw [if_neg (by omega)]
    · have : x3 = x0 := by
        apply List.ext_getElem?
        intro j
        by_cases hj : j < i
        · exact he j hj
        · rw [List.getElem?_eq_none (by omega), List.getElem?_eq_none (by omega)]
      rw [this]
      exact Ev.now _
  | succ d ih =>
    intro i hi x3 hl he
    refine Ev.step (f := fun k => laws_toIntS.l0 k x0 (x3.set i (rd x0 i)) ((i + 1 : Nat) : Int)) (fun k => ?_) (ih (i + 1) (by omega) _ (by simpa using hl) ?_)
    · simp only [laws_toIntS.l0]
      rw [if_pos (by omega), if_pos (by omega), if_pos (by omega), w64 (by omega) (by omega)]
      rfl
    · intro j hj
      rw [List.getElem?_set]
      by_cases hji : i = j
      · subst hji
        rw [if_pos rfl, if_pos (by omega)]
        simp [rd, List.getElem?_eq_getElem (show i < x0.length by omega)]
      · rw [if_neg hji]
        exact he j (by omega)
theorem toIntS_ev (l : List Int) (hn : l.length ≤ 1048576) : Ev (fun k => laws_toIntS.f k l) l := by
  refine Ev.congr (g := fun k => laws_toIntS.f k l) (fun k => ?_) (toIntS_l0 l hn l.length 0 (by omega) (List.replicate l.length 0) (by simp) (fun j hj => absurd hj (by omega)))
  unfold laws_toIntS.f
  rw [if_pos (by omega), if_pos (by omega)]
  rfl

theorem eqIntS_l0 (a : List Int) (hn : a.length ≤ 1048576) : ∀ (d i : Nat), i + d = a.length → Ev (fun k => laws_eqIntS.l0 k a a (i : Int)) true := by
  intro d
  induction d with
  | zero =>
    intro i hi
    refine Ev.step (f := fun _ => some true) (fun k => ?_) (Ev.now _)
    simp only [laws_eqIntS.l0]; rw [if_neg (by omega)]
  | succ d ih =>
    intro i hi
    refine Ev.step (f := fun k => laws_eqIntS.l0 k a a ((i + 1 : Nat) : Int)) (fun k => ?_) (ih (i + 1) (by omega))
    simp only [laws_eqIntS.l0]
    rw [if_pos (by omega), if_pos (by omega), if_pos (by omega), if_pos (show True from trivial), w64 (by omega) (by omega)]
    rfl
theorem eqIntS_ev (a : List Int) (hn : a.length ≤ 1048576) : Ev (fun k => laws_eqIntS.f k a a) true := by
  refine Ev.congr (g := fun k => laws_eqIntS.f k a a) (fun k => ?_) (eqIntS_l0 a hn a.length 0 (by omega))
  unfold laws_eqIntS.f
  rw [if_pos rfl]
  rfl

def okE (x : Int) : Bool := decide (-1000000000000000 ≤ x) && decide (x ≤ 1000000000000000)
theorem within_ok (x : Int) : impl_within.f x (-1000000000000000) 1000000000000000 = some (okE x) := by
  unfold impl_within.f okE
  split
  · rename_i h; simp [show (-1000000000000000 : Int) ≤ x from h]
  · rename_i h; simp [show ¬ (-1000000000000000 : Int) ≤ x from h]
theorem in_ok (x : Int) : spec_l01In.f x (-1000000000000000) 1000000000000000 = some (okE x) := by
  unfold spec_l01In.f okE
  split
  · rename_i h; simp [show (-1000000000000000 : Int) ≤ x from h]
  · rename_i h; simp [show ¬ (-1000000000000000 : Int) ≤ x from h]
theorem ok_bounds {x : Int} (h : okE x = true) : -1000000000000000 ≤ x ∧ x ≤ 1000000000000000 := by simpa [okE] using h
theorem gap_same (x y : Int) (hx : okE x = true) (hy : okE y = true) : ∃ g, impl_absolute.f (wrap64 (x - y)) = some g ∧ spec_l09Gap.f x y = some g := by
  have hx := ok_bounds hx
  have hy := ok_bounds hy
  refine ⟨mx (wrap64 (x - y)) (wrap64 (-wrap64 (x - y))), rfl, ?_⟩
  unfold spec_l09Gap.f
  rw [w64 (x := x - y) (by omega) (by omega), w64 (x := -(x - y)) (by omega) (by omega), w64 (x := y - x) (by omega) (by omega)]
  unfold mx
  split <;> split <;> first | rfl | (congr 1; omega)
theorem loops_same (a b : List Int) (hn : a.length ≤ 1048576) (hl : a.length = b.length) : ∀ (d i : Nat), i + d = a.length → ∀ m : Int, ∃ r, Ev (fun k => spec_ErrorOf.l0 k a b m (i : Int)) r ∧ Ev (fun k => impl_ErrorOf.l0 k b m a (a.length : Int) (i : Int)) r := by
  intro d
  induction d with
  | zero =>
    intro i hi m
    refine ⟨m, Ev.step (f := fun _ => some m) (fun k => ?_) (Ev.now _), Ev.step (f := fun _ => some m) (fun k => ?_) (Ev.now _)⟩
    · simp only [spec_ErrorOf.l0]; rw [if_neg (by omega)]
    · simp only [impl_ErrorOf.l0]; rw [if_neg (by omega)]
  | succ d ih =>
    intro i hi m
    by_cases h1 : okE (rd a i) = true
    · by_cases h2 : okE (rd b i) = true
      · obtain ⟨g, e1, e2⟩ := gap_same _ _ h1 h2
        obtain ⟨r, i1, i2⟩ := ih (i + 1) (by omega) (mx m g)
        refine ⟨r, Ev.step (fun k => ?_) i1, Ev.step (fun k => ?_) i2⟩
        · simp only [spec_ErrorOf.l0]
          rw [if_pos (by omega), if_pos (by omega), in_ok, h1]
          simp only [Option.bind_some, if_true]
          rw [if_pos (by omega), in_ok, h2]
          simp only [Option.bind_some, if_true]
          rw [e2]
          simp only [Option.bind_some]
          rw [w64 (by omega) (by omega)]
          rfl
        · simp only [impl_ErrorOf.l0]
          rw [if_pos (by omega), if_pos (by omega), if_pos (by omega), within_ok, h1]
          simp only [Option.bind_some, if_true]
          rw [if_pos (by omega), within_ok, h2]
          simp only [Option.bind_some, if_true]
          rw [e1]
          simp only [Option.bind_some]
          rw [w64 (by omega) (by omega)]
          rfl
      · have h2' : okE (rd b i) = false := by simpa using h2
        refine ⟨-1, Ev.step (f := fun _ => some (-1)) (fun k => ?_) (Ev.now _), Ev.step (f := fun _ => some (-1)) (fun k => ?_) (Ev.now _)⟩
        · simp only [spec_ErrorOf.l0]
          rw [if_pos (by omega), if_pos (by omega), in_ok, h1]
          simp only [Option.bind_some, if_true]
          rw [if_pos (by omega), in_ok, h2']
          rfl
        · simp only [impl_ErrorOf.l0]
          rw [if_pos (by omega), if_pos (by omega), if_pos (by omega), within_ok, h1]
          simp only [Option.bind_some, if_true]
          rw [if_pos (by omega), within_ok, h2']
          rfl
    · have h1' : okE (rd a i) = false := by simpa using h1
      refine ⟨-1, Ev.step (f := fun _ => some (-1)) (fun k => ?_) (Ev.now _), Ev.step (f := fun _ => some (-1)) (fun k => ?_) (Ev.now _)⟩
      · simp only [spec_ErrorOf.l0]
        rw [if_pos (by omega), if_pos (by omega), in_ok, h1']
        rfl
      · simp only [impl_ErrorOf.l0]
        rw [if_pos (by omega), if_pos (by omega), if_pos (by omega), within_ok, h1']
        rfl
theorem errorOf_same (a b : List Int) (hn : a.length ≤ 1048576) : ∃ r, Ev (fun k => spec_ErrorOf.f k a b) r ∧ Ev (fun k => impl_ErrorOf.f k a b) r := by
  by_cases h : (a.length : Int) = (b.length : Int)
  · obtain ⟨r, e1, e2⟩ := loops_same a b hn (by omega) a.length 0 (by omega) 0
    refine ⟨r, Ev.congr (fun k => ?_) e1, Ev.congr (fun k => ?_) e2⟩
    · unfold spec_ErrorOf.f; rw [if_pos h]; rfl
    · unfold impl_ErrorOf.f; rw [if_pos h]; rfl
  · refine ⟨-1, Ev.congr (f := fun _ => some (-1)) (fun k => ?_) (Ev.now _), Ev.congr (f := fun _ => some (-1)) (fun k => ?_) (Ev.now _)⟩
    · unfold spec_ErrorOf.f; rw [if_neg h]
    · unfold impl_ErrorOf.f; rw [if_neg h]
theorem FnExactErrorOf : laws_FnExactErrorOf.Pure := by
  intro a b _ _ _ _ _ _
  refine Ev.rounds (r := true) ?_
  unfold laws_FnExactErrorOf.f
  by_cases ha : (a.length : Int) > 1048576
  · simp only [if_pos ha]; exact Ev.now _
  simp only [if_neg ha]
  by_cases hb : (b.length : Int) > 1048576
  · simp only [if_pos hb]; exact Ev.now _
  simp only [if_neg hb]
  have ta := toIntS_ev a (by omega)
  have tb := toIntS_ev b (by omega)
  have qa := eqIntS_ev a (by omega)
  have qb := eqIntS_ev b (by omega)
  obtain ⟨r, e1, e2⟩ := errorOf_same a b (by omega)
  refine Ev.bind ta (Ev.bind tb (Ev.bind e1 (Ev.bind ta (Ev.bind tb (Ev.bind e2 ?_)))))
  simp only [if_true]
  refine Ev.bind ta (Ev.bind qa ?_)
  simp only [if_true]
  refine Ev.bind tb (Ev.bind qb ?_)
  simp only [if_true]
  exact Ev.now _

end Go.Proofs.Ytbjdohceapijjaa.Pure
