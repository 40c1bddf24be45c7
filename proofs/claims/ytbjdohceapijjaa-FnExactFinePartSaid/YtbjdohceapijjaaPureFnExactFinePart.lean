/- FinePart of the program and of the reference answer the same at every list and whole number, and the answer is memory of its own. -/
import Derived.Test.YtbjdohceapijjaaPFnExactFinePartx2
set_option linter.unusedVariables false
namespace Go.Proofs.Ytbjdohceapijjaa.Pure
open Go.RowKit Go.Proofs.Ytbjdohceapijjaa.PFnExactFinePart Go.Proofs.YtbjdohceapijjaaW.PrintWords Go.Proofs.YtbjdohceapijjaaW.PrintLast Go.Proofs.YtbjdohceapijjaaW.PrintMore

theorem w64 {x : Int} (h1 : -9223372036854775808 ≤ x) (h2 : x ≤ 9223372036854775807) : wrap64 x = x := by unfold wrap64; omega

theorem toIntS_l0 (x0 : List Int) (hn : x0.length ≤ 1048576) : ∀ (d i : Nat), i + d = x0.length → ∀ x3 : List Int, x3.length = x0.length → (∀ j, j < i → x3[j]? = x0[j]?) → Ev (fun k => laws_toIntS.l0 k x0 x3 (i : Int)) x0 := by
  intro d
  induction d with
  | zero =>
    intro i hi x3 hl he
    refine Ev.step (f := fun _ => some x3) (fun k => ?_) ?_
    · simp only [laws_toIntS.l0]; rw [if_neg (by omega)]
    · have : x3 = x0 := by
        apply List.ext_getElem?
        intro j
        by_cases hj : j < i
        · exact he j hj
        · rw [List.getElem?_eq_none (by omega), List.getElem?_eq_none (by omega)]
      rw [this]
      exact Ev.now _
  | succ d ih =>
    intro i hi x3 hl he
    refine Ev.step (f := fun k => laws_toIntS.l0 k x0 (x3.set i (rd x0 i)) ((i + 1 : Nat) : Int)) (fun k => ?_) (ih (i + 1) (by omega) _ (by simpa using hl) ?_)
    · simp only [laws_toIntS.l0]
      rw [if_pos (by omega), if_pos (by omega), if_pos (by omega), w64 (by omega) (by omega)]
      rfl
    · intro j hj
      rw [List.getElem?_set]
      by_cases hji : i = j
      · subst hji
        rw [if_pos rfl, if_pos (by omega)]
        simp [rd, List.getElem?_eq_getElem (show i < x0.length by omega)]
      · rw [if_neg hji]
        exact he j (by omega)
theorem toIntS_ev (l : List Int) (hn : l.length ≤ 1048576) : Ev (fun k => laws_toIntS.f k l) l := by
  refine Ev.congr (g := fun k => laws_toIntS.f k l) (fun k => ?_) (toIntS_l0 l hn l.length 0 (by omega) (List.replicate l.length 0) (by simp) (fun j hj => absurd hj (by omega)))
  unfold laws_toIntS.f
  rw [if_pos (by omega), if_pos (by omega)]
  rfl

theorem eqIntS_l0 (a : List Int) (hn : a.length ≤ 1048576) : ∀ (d i : Nat), i + d = a.length → Ev (fun k => laws_eqIntS.l0 k a a (i : Int)) true := by
  intro d
  induction d with
  | zero =>
    intro i hi
    refine Ev.step (f := fun _ => some true) (fun k => ?_) (Ev.now _)
    simp only [laws_eqIntS.l0]; rw [if_neg (by omega)]
  | succ d ih =>
    intro i hi
    refine Ev.step (f := fun k => laws_eqIntS.l0 k a a ((i + 1 : Nat) : Int)) (fun k => ?_) (ih (i + 1) (by omega))
    simp only [laws_eqIntS.l0]
    rw [if_pos (by omega), if_pos (by omega), if_pos (by omega), if_pos (show True from trivial), w64 (by omega) (by omega)]
    rfl
theorem eqIntS_ev (a : List Int) (hn : a.length ≤ 1048576) : Ev (fun k => laws_eqIntS.f k a a) true := by
  refine Ev.congr (g := fun k => laws_eqIntS.f k a a) (fun k => ?_) (eqIntS_l0 a hn a.length 0 (by omega))
  unfold laws_eqIntS.f
  rw [if_pos rfl]
  rfl

def iota : Nat → Int → List Int
  | 0, _ => []
  | n + 1, a => a :: iota n (a + 1)
theorem iota_length : ∀ (n : Nat) (a : Int), (iota n a).length = n
  | 0, _ => rfl
  | n + 1, a => by simp [iota, iota_length n]
theorem iota_get : ∀ (n : Nat) (a : Int) (i : Nat), i < n → (iota n a)[i]? = some (a + i)
  | n + 1, a, 0, _ => by simp [iota]
  | n + 1, a, i + 1, h => by simp only [iota, List.getElem?_cons_succ]; rw [iota_get n (a + 1) i (by omega)]; congr 1; push_cast; omega
theorem markIntS_l0 (n : Nat) (a : Int) (ha : 0 ≤ a) (hb : a + n ≤ 1000000000000) : ∀ (d i : Nat), i + d = n → ∀ x : List Int, x.length = n → (∀ j, j < i → x[j]? = some (a + j)) → Ev (fun k => laws_markIntS.l0 k x (a + i) (i : Int)) (a + n, iota n a) := by
  intro d
  induction d with
  | zero =>
    intro i hi x hl he
    refine Ev.step (f := fun _ => some (a + (i : Int), x)) (fun k => ?_) ?_
    · simp only [laws_markIntS.l0]; rw [if_neg (by omega)]
    · have : x = iota n a := by
        apply List.ext_getElem?
        intro j
        by_cases hj : j < i
        · rw [he j hj, iota_get n a j (by omega)]
        · rw [List.getElem?_eq_none (by omega), List.getElem?_eq_none (by rw [iota_length]; omega)]
      rw [this, show i = n by omega]
      exact Ev.now _
  | succ d ih =>
    intro i hi x hl he
    refine Ev.step (f := fun k => laws_markIntS.l0 k (x.set i (a + i)) (a + ((i + 1 : Nat) : Int)) ((i + 1 : Nat) : Int)) (fun k => ?_) (ih (i + 1) (by omega) _ (by simpa using hl) ?_)
    · simp only [laws_markIntS.l0]
      rw [if_pos (by omega), if_pos (by omega), w64 (x := (i : Int) + 1) (by omega) (by omega), w64 (by omega) (by omega), Int.add_assoc]
      rfl
    · intro j hj
      rw [List.getElem?_set]
      by_cases hji : i = j
      · subst hji
        rw [if_pos rfl, if_pos (by omega)]
      · rw [if_neg hji]
        exact he j (by omega)
theorem markIntS_ev (l : List Int) (a : Int) (ha : 0 ≤ a) (hb : a + l.length ≤ 1000000000000) : Ev (fun k => laws_markIntS.f k l a) (a + l.length, iota l.length a) := by
  have h := markIntS_l0 l.length a ha hb l.length 0 (by omega) l rfl (fun j hj => absurd hj (by omega))
  refine Ev.congr (g := fun k => laws_markIntS.f k l a) (fun k => ?_) h
  unfold laws_markIntS.f
  simp
theorem heldIntS_l0 (n : Nat) (a : Int) (ha : 0 ≤ a) (hb : a + n ≤ 1000000000000) : ∀ (d i : Nat), i + d = n → Ev (fun k => laws_heldIntS.l0 k (iota n a) (a + i) (i : Int)) (a + n) := by
  intro d
  induction d with
  | zero =>
    intro i hi
    refine Ev.step (f := fun _ => some (a + (i : Int))) (fun k => ?_) ?_
    · simp only [laws_heldIntS.l0]; rw [if_neg (by rw [iota_length]; omega)]
    · rw [show i = n by omega]
      exact Ev.now _
  | succ d ih =>
    intro i hi
    refine Ev.step (f := fun k => laws_heldIntS.l0 k (iota n a) (a + ((i + 1 : Nat) : Int)) ((i + 1 : Nat) : Int)) (fun k => ?_) (ih (i + 1) (by omega))
    have hg : rd (iota n a) (i : Int) = a + i := by
      unfold rd
      rw [List.getD_eq_getElem?_getD, Int.toNat_natCast, iota_get n a i (by omega)]
      rfl
    simp only [laws_heldIntS.l0]
    rw [if_pos (by rw [iota_length]; omega), if_pos (by omega), if_pos hg, w64 (x := (i : Int) + 1) (by omega) (by omega), w64 (by omega) (by omega), Int.add_assoc]
    rfl
theorem heldIntS_ev (n : Nat) (a : Int) (ha : 0 ≤ a) (hb : a + n ≤ 1000000000000) : Ev (fun k => laws_heldIntS.f k (iota n a) a) (a + n) := by
  refine Ev.congr (g := fun k => laws_heldIntS.f k (iota n a) a) (fun k => ?_) (heldIntS_l0 n a ha hb n 0 (by omega))
  unfold laws_heldIntS.f
  simp

theorem in_b (n a b : Int) : spec_l01In.f n a b = some (decide (a ≤ n ∧ n ≤ b)) := by
  unfold spec_l01In.f
  by_cases h : n ≥ a
  · rw [if_pos h]; simp [show a ≤ n from h]
  · rw [if_neg h]; simp [show ¬ a ≤ n from h]
theorem within_b (n a b : Int) : impl_within.f n a b = some (decide (a ≤ n ∧ n ≤ b)) := by
  unfold impl_within.f
  by_cases h : n ≥ a
  · rw [if_pos h]; simp [show a ≤ n from h]
  · rw [if_neg h]; simp [show ¬ a ≤ n from h]
theorem spec_loop (e : List Int) (n : Int) (h1 : 1 ≤ n) (h2 : n ≤ 64) (hl : (e.length : Int) = (n + 1) / 2) : ∀ (d i : Nat), (i : Int) + d = n → ∀ o : List Int, o.length = i →
    ∃ r : List Int, r.length ≤ 64 ∧ Ev (fun k => spec_FinePart.l0 k e n o (i : Int)) r ∧ Ev (fun k => impl_FinePart.l0 k e o n (i : Int)) r := by
  intro d
  induction d with
  | zero =>
    intro i hi o ho
    refine ⟨o, by omega, Ev.step (f := fun _ => some o) (fun k => ?_) (Ev.now _), Ev.step (f := fun _ => some o) (fun k => ?_) (Ev.now _)⟩
    · simp only [spec_FinePart.l0]; rw [if_neg (by omega)]
    · simp only [impl_FinePart.l0]; rw [if_neg (by omega)]
  | succ d ih =>
    intro i hi o ho
    have ht : wrap64 (Int.tdiv (i : Int) 2) = ((i / 2 : Nat) : Int) := by
      rw [Int.tdiv_eq_ediv_of_nonneg (by omega), w64 (by omega) (by omega)]; omega
    obtain ⟨r, hr, e1, e2⟩ := ih (i + 1) (by omega) (o ++ [rd e ((i / 2 : Nat) : Int)]) (by simp [ho])
    refine ⟨r, hr, Ev.step (fun k => ?_) e1, Ev.step (fun k => ?_) e2⟩
    · simp only [spec_FinePart.l0]
      rw [ht, if_pos (by omega), if_pos (by omega), if_pos (by omega), if_pos (by omega), w64 (by omega) (by omega)]
      rfl
    · simp only [impl_FinePart.l0]
      rw [ht, if_pos (by omega), if_pos (by omega), if_pos (by omega), if_pos (by omega), w64 (by omega) (by omega)]
      rfl
theorem fine_same (e : List Int) (n : Int) (hn : e.length ≤ 1048576) : ∃ r : List Int, r.length ≤ 64 ∧ Ev (fun k => spec_FinePart.f k e n) r ∧ Ev (fun k => impl_FinePart.f k e n) r := by
  have none_ : ∀ b : Bool, b = true → Ev (fun k => spec_FinePart.j0 k e n [] b) [] ∧ Ev (fun k => impl_FinePart.j0 k e n b) [] := fun b hb => by
    subst hb
    exact ⟨Ev.step (f := fun _ => some []) (fun k => by simp only [spec_FinePart.j0]; rw [if_pos trivial]) (Ev.now _), Ev.step (f := fun _ => some []) (fun k => by simp only [impl_FinePart.j0]; rw [if_pos trivial]) (Ev.now _)⟩
  by_cases h : 1 ≤ n ∧ n ≤ 64
  · have ht : wrap64 (Int.tdiv (wrap64 (n + 1)) 2) = (n + 1) / 2 := by
      rw [w64 (x := n + 1) (by omega) (by omega), Int.tdiv_eq_ediv_of_nonneg (by omega), w64 (by omega) (by omega)]
    by_cases hl : (e.length : Int) = (n + 1) / 2
    · obtain ⟨r, hr, e1, e2⟩ := spec_loop e n h.1 h.2 hl n.toNat 0 (by omega) [] rfl
      refine ⟨r, hr, Ev.congr (f := fun k => spec_FinePart.j0 k e n [] false) (fun k => ?_) (Ev.step (fun k => ?_) e1), Ev.congr (f := fun k => impl_FinePart.j0 k e n false) (fun k => ?_) (Ev.step (fun k => ?_) e2)⟩
      · unfold spec_FinePart.f
        simp only [Option.bind_some]
        rw [in_b, decide_eq_true h, ht]
        simp [hl]
      · simp only [spec_FinePart.j0]; rw [if_neg (by decide)]; rfl
      · unfold impl_FinePart.f
        rw [within_b, decide_eq_true h, ht]
        simp [hl]
      · simp only [impl_FinePart.j0]; rw [if_neg (by decide)]; rfl
    · refine ⟨[], by simp, Ev.congr (fun k => ?_) (none_ true rfl).1, Ev.congr (fun k => ?_) (none_ true rfl).2⟩
      · unfold spec_FinePart.f
        simp only [Option.bind_some]
        rw [in_b, decide_eq_true h, ht, bne_iff_ne.mpr hl]
        rfl
      · unfold impl_FinePart.f
        rw [within_b, decide_eq_true h, ht, bne_iff_ne.mpr hl]
        rfl
  · refine ⟨[], by simp, Ev.congr (fun k => ?_) (none_ true rfl).1, Ev.congr (fun k => ?_) (none_ true rfl).2⟩
    · unfold spec_FinePart.f
      simp only [Option.bind_some]
      rw [in_b, decide_eq_false h]
      rfl
    · unfold impl_FinePart.f
      rw [within_b, decide_eq_false h]
      rfl
theorem FnExactFinePart : laws_FnExactFinePart.Pure := by
  intro e n _ _ _ _
  refine Ev.rounds (r := true) ?_
  unfold laws_FnExactFinePart.f
  by_cases hb : (e.length : Int) > 1048576
  · simp only [if_pos hb]; exact Ev.now _
  simp only [if_neg hb]
  have te := toIntS_ev e (by omega)
  have qe := eqIntS_ev e (by omega)
  obtain ⟨r, hr, e1, e2⟩ := fine_same e n (by omega)
  have qr := eqIntS_ev r (by omega)
  refine Ev.bind te (Ev.bind e1 (Ev.bind te (Ev.bind e2 (Ev.bind qr ?_))))
  simp only [if_true]
  refine Ev.bind te (Ev.bind qe ?_)
  simp only [if_true]
  refine Ev.bind (markIntS_ev e 1 (by omega) (by omega)) ?_
  have hneg : ¬ ((1 : Int) + e.length < 0) := by omega
  simp only [hneg, if_false]
  refine Ev.bind qr ?_
  refine Ev.step (f := fun k => (laws_markIntS.f k r 1).bind fun bt146 => ((laws_heldIntS.f k bt146.2 1).bind fun t148 => (if t148 < 0 then (some false) else (if t148 = bt146.1 then ((laws_toIntS.f k e).bind fun t149 => ((impl_FinePart.f k t149 n).bind fun t152 => ((laws_eqIntS.f k t152 r).bind fun t155 => (if t155 = true then ((laws_heldIntS.f k bt146.2 1).bind fun t156 => (if t156 < 0 then (some false) else (if t156 = bt146.1 then (some true) else (some false)))) else (some false))))) else (some false))))) (fun k => ?_) ?_
  · simp only [laws_FnExactFinePart.j0]; rw [if_neg (by decide)]
  have hneg' : ¬ ((1 : Int) + r.length < 0) := by omega
  have hm := markIntS_ev r 1 (by omega) (by omega)
  have hh := heldIntS_ev r.length 1 (by omega) (by omega)
  refine Ev.bind hm ?_
  refine Ev.bind hh ?_
  simp only [hneg', if_false, if_true]
  refine Ev.bind te (Ev.bind e2 (Ev.bind qr ?_))
  simp only [if_true]
  refine Ev.bind hh ?_
  simp only [hneg', if_false, if_true]
  exact Ev.now _

end Go.Proofs.Ytbjdohceapijjaa.Pure
