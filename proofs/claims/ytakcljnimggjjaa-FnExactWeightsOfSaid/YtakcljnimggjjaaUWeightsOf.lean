/- WeightsOf of the program and of the reference answer the same at every mesh, in a list of the call's own. -/
import Derived.Test.YtakcljnimggjjaaQFnExactWeightsOf
import Derived.Test.YtakcljnimggjjaaPu
set_option linter.unusedVariables false
set_option linter.unusedSimpArgs false
namespace Go.Proofs.Ytakcljnimggjjaa.UWeightsOf
open Go.RowKit Go.Proofs.Ytakcljnimggjjaa.PFnExactWeightsOf Go.Proofs.YtakcljnimggjjaaW.PrintWords Go.Proofs.YtakcljnimggjjaaW.PrintLast Go.Proofs.YtakcljnimggjjaaW.PrintMore Go.Proofs.Ytakcljnimggjjaa.Pu

theorem in_b (n a b : Int) : spec_l01In.f n a b = some (decide (a ≤ n ∧ n ≤ b)) := by
  unfold spec_l01In.f
  by_cases h : n ≥ a
  · rw [if_pos h]; simp [show a ≤ n from h]
  · rw [if_neg h]; simp [show ¬ a ≤ n from h]
theorem within_b (n a b : Int) : impl_within.f n a b = some (decide (a ≤ n ∧ n ≤ b)) := by
  unfold impl_within.f
  by_cases h : n ≥ a
  · rw [if_pos h]; simp [show a ≤ n from h]
  · rw [if_neg h]; simp [show ¬ a ≤ n from h]

theorem level_facts (b : Int) (h : 0 ≤ b ∧ b ≤ 4) : IntKind.u64.wrap b = b ∧ 1 ≤ shl .i64 1 b ∧ shl .i64 1 b ≤ 16 ∧ 1 ≤ shr .i64 16 b ∧ shr .i64 16 b ≤ 16 ∧ shl .i64 1 b * shr .i64 16 b = 16 := by
  have : b = 0 ∨ b = 1 ∨ b = 2 ∨ b = 3 ∨ b = 4 := by omega
  rcases this with rfl | rfl | rfl | rfl | rfl <;> decide
def idB (a b c : Int) : Bool := decide (0 ≤ a ∧ a ≤ 7) && (decide (0 ≤ b ∧ b ≤ 4) && decide (0 ≤ c ∧ c < shl .i64 1 b))
theorem idB_iff {a b c : Int} : idB a b c = true ↔ (0 ≤ a ∧ a ≤ 7) ∧ (0 ≤ b ∧ b ≤ 4) ∧ 0 ≤ c ∧ c < shl .i64 1 b := by simp [idB]
theorem impl_idOk (a b c : Int) : impl_IdOk.f a b c = some (idB a b c) := by
  unfold impl_IdOk.f impl_isLevel.f idB
  simp only [within_b, Option.bind_some]
  by_cases h1 : 0 ≤ a ∧ a ≤ 7
  · rw [decide_eq_true h1, if_pos rfl, Bool.true_and]
    by_cases h2 : 0 ≤ b ∧ b ≤ 4
    · obtain ⟨_, f2, f3, _⟩ := level_facts b h2
      rw [decide_eq_true h2, if_pos rfl, if_pos h2.1, Bool.true_and, w64 (by omega) (by omega)]
      congr 1
      exact decide_eq_decide.2 (by omega)
    · rw [decide_eq_false h2, if_neg (by decide), Bool.false_and]
  · rw [decide_eq_false h1, if_neg (by decide), Bool.false_and]
theorem spec_idOk (a b c : Int) : spec_IdOk.f a b c = some (idB a b c) := by
  unfold spec_IdOk.f idB
  simp only [in_b, Option.bind_some]
  by_cases h1 : 0 ≤ a ∧ a ≤ 7
  · rw [decide_eq_true h1, if_pos rfl, Bool.true_and]
    by_cases h2 : 0 ≤ b ∧ b ≤ 4
    · obtain ⟨f1, f2, f3, _⟩ := level_facts b h2
      rw [decide_eq_true h2, if_pos rfl, Bool.true_and, f1]
      by_cases h3 : c ≥ 0
      · rw [if_pos h3, if_pos h2.1]
        congr 1
        exact decide_eq_decide.2 (by omega)
      · rw [if_neg h3, decide_eq_false (by omega)]
    · rw [decide_eq_false h2, if_neg (by decide), Bool.false_and]
  · rw [decide_eq_false h1, if_neg (by decide), Bool.false_and]
def widV (b : Int) : Int := if 0 ≤ b ∧ b ≤ 4 then shr .i64 16 b else 0
theorem impl_width (b : Int) : impl_WidthOf.f b = some (widV b) := by
  unfold impl_WidthOf.f impl_isLevel.f widV
  simp only [within_b, Option.bind_some]
  by_cases h2 : 0 ≤ b ∧ b ≤ 4
  · rw [decide_eq_true h2, if_pos rfl, if_pos h2.1, if_pos h2]
  · rw [decide_eq_false h2, if_neg (by decide), if_neg h2]
theorem spec_width (b : Int) : spec_WidthOf.f b = some (widV b) := by
  unfold spec_WidthOf.f widV
  simp only [in_b, Option.bind_some]
  by_cases h2 : 0 ≤ b ∧ b ≤ 4
  · rw [decide_eq_true h2, if_pos rfl, (level_facts b h2).1, if_pos h2.1, if_pos h2]
  · rw [decide_eq_false h2, if_neg (by decide), if_neg h2]
def startV (a b c : Int) : Int := if idB a b c = true then wrap64 (wrap64 (a * 16) + wrap64 (c * widV b)) else -1
theorem impl_start (a b c : Int) : impl_StartOf.f a b c = some (startV a b c) := by
  unfold impl_StartOf.f startV
  rw [impl_idOk, Option.bind_some, impl_width]
  split <;> rfl
theorem spec_start (a b c : Int) : spec_StartOf.f a b c = some (startV a b c) := by
  unfold spec_StartOf.f startV
  rw [spec_idOk, Option.bind_some, spec_width]
  split <;> rfl
def endV (a b c : Int) : Int := wrap64 (startV a b c + widV b)
theorem impl_end (a b c : Int) : impl_endOf.f a b c = some (endV a b c) := by
  unfold impl_endOf.f endV
  rw [impl_start, impl_width]
  rfl
theorem spec_end (a b c : Int) : spec_l04End.f a b c = some (endV a b c) := by
  unfold spec_l04End.f endV
  rw [spec_start, spec_width]
  rfl
/-- the leaves from i on continue at position x -/
def meshB (r : Int) (p : List S72) : Nat → Nat → Int → Bool
  | 0, _, x => decide (1 ≤ r ∧ r ≤ 8) && (x == wrap64 (r * 16))
  | d + 1, i, x => idB (rd_T72 p (i : Int)).f0 (rd_T72 p (i : Int)).f1 (rd_T72 p (i : Int)).f2 && (decide (startV (rd_T72 p (i : Int)).f0 (rd_T72 p (i : Int)).f1 (rd_T72 p (i : Int)).f2 = x) && meshB r p d (i + 1) (endV (rd_T72 p (i : Int)).f0 (rd_T72 p (i : Int)).f1 (rd_T72 p (i : Int)).f2))
theorem impl_mesh_l0 (r : Int) (p : List S72) (hp : p.length ≤ 1048576) : ∀ (d i : Nat) (x : Int), i + d = p.length → Ev (fun k => impl_MeshOk.l0 k x p (p.length : Int) (i : Int) r p) (meshB r p d i x)
  | 0, i, x, h => by
    rw [meshB]
    refine Ev.step (f := fun _ => if decide (1 ≤ r ∧ r ≤ 8) = true then some (x == wrap64 (r * 16)) else some false) (fun k => by simp only [impl_MeshOk.l0]; rw [if_neg (by omega), within_b, Option.bind_some]) ?_
    cases decide (1 ≤ r ∧ r ≤ 8)
    · exact Ev.now _
    · exact Ev.now _
  | d + 1, i, x, h => by
    rw [meshB]
    have hs : ∀ k, impl_MeshOk.l0 (k + 1) x p (p.length : Int) (i : Int) r p = if idB (rd_T72 p (i : Int)).f0 (rd_T72 p (i : Int)).f1 (rd_T72 p (i : Int)).f2 = true then (if startV (rd_T72 p (i : Int)).f0 (rd_T72 p (i : Int)).f1 (rd_T72 p (i : Int)).f2 = x then impl_MeshOk.l0 k (endV (rd_T72 p (i : Int)).f0 (rd_T72 p (i : Int)).f1 (rd_T72 p (i : Int)).f2) p (p.length : Int) ((i + 1 : Nat) : Int) r p else some false) else some false := fun k => by
      simp only [impl_MeshOk.l0]
      rw [if_pos (by omega), if_pos (by omega), if_pos (by omega), impl_idOk, impl_start, impl_end, w64 (by omega) (by omega)]
      rfl
    by_cases h1 : idB (rd_T72 p (i : Int)).f0 (rd_T72 p (i : Int)).f1 (rd_T72 p (i : Int)).f2 = true
    · by_cases h2 : startV (rd_T72 p (i : Int)).f0 (rd_T72 p (i : Int)).f1 (rd_T72 p (i : Int)).f2 = x
      · rw [h1, decide_eq_true h2, Bool.true_and, Bool.true_and]
        exact Ev.step (fun k => by rw [hs, if_pos h1, if_pos h2]) (impl_mesh_l0 r p hp d (i + 1) _ (by omega))
      · rw [h1, decide_eq_false h2, Bool.true_and, Bool.false_and]
        exact Ev.step (f := fun _ => some false) (fun k => by rw [hs, if_pos h1, if_neg h2]) (Ev.now _)
    · rw [Bool.not_eq_true] at h1
      rw [h1, Bool.false_and]
      exact Ev.step (f := fun _ => some false) (fun k => by rw [hs, h1, if_neg (by decide)]) (Ev.now _)
theorem spec_mesh_l0 (r : Int) (p : List S72) (hp : p.length ≤ 1048576) : ∀ (d i : Nat) (x : Int), i + d = p.length → Ev (fun k => spec_MeshOk.l0 k x (i : Int) r p) (meshB r p d i x)
  | 0, i, x, h => by
    rw [meshB]
    refine Ev.step (f := fun _ => if decide (1 ≤ r ∧ r ≤ 8) = true then some (x == wrap64 (r * 16)) else some false) (fun k => by simp only [spec_MeshOk.l0]; rw [if_neg (by omega), in_b, Option.bind_some]) ?_
    cases decide (1 ≤ r ∧ r ≤ 8)
    · exact Ev.now _
    · exact Ev.now _
  | d + 1, i, x, h => by
    rw [meshB]
    have hs : ∀ k, spec_MeshOk.l0 (k + 1) x (i : Int) r p = if idB (rd_T72 p (i : Int)).f0 (rd_T72 p (i : Int)).f1 (rd_T72 p (i : Int)).f2 = true then (if startV (rd_T72 p (i : Int)).f0 (rd_T72 p (i : Int)).f1 (rd_T72 p (i : Int)).f2 = x then spec_MeshOk.l0 k (endV (rd_T72 p (i : Int)).f0 (rd_T72 p (i : Int)).f1 (rd_T72 p (i : Int)).f2) ((i + 1 : Nat) : Int) r p else some false) else some false := fun k => by
      simp only [spec_MeshOk.l0]
      rw [if_pos (by omega), if_pos (by omega), spec_idOk, spec_start, spec_end, w64 (by omega) (by omega)]
      rfl
    by_cases h1 : idB (rd_T72 p (i : Int)).f0 (rd_T72 p (i : Int)).f1 (rd_T72 p (i : Int)).f2 = true
    · by_cases h2 : startV (rd_T72 p (i : Int)).f0 (rd_T72 p (i : Int)).f1 (rd_T72 p (i : Int)).f2 = x
      · rw [h1, decide_eq_true h2, Bool.true_and, Bool.true_and]
        exact Ev.step (fun k => by rw [hs, if_pos h1, if_pos h2]) (spec_mesh_l0 r p hp d (i + 1) _ (by omega))
      · rw [h1, decide_eq_false h2, Bool.true_and, Bool.false_and]
        exact Ev.step (f := fun _ => some false) (fun k => by rw [hs, if_pos h1, if_neg h2]) (Ev.now _)
    · rw [Bool.not_eq_true] at h1
      rw [h1, Bool.false_and]
      exact Ev.step (f := fun _ => some false) (fun k => by rw [hs, h1, if_neg (by decide)]) (Ev.now _)
def meshOkB (r : Int) (p : List S72) : Bool := meshB r p p.length 0 0
theorem impl_mesh_ev (r : Int) (p : List S72) (hp : p.length ≤ 1048576) : Ev (fun k => impl_MeshOk.f k r p) (meshOkB r p) := by
  unfold impl_MeshOk.f
  exact impl_mesh_l0 r p hp p.length 0 0 (by omega)
theorem spec_mesh_ev (r : Int) (p : List S72) (hp : p.length ≤ 1048576) : Ev (fun k => spec_MeshOk.f k r p) (meshOkB r p) := by
  unfold spec_MeshOk.f
  exact spec_mesh_l0 r p hp p.length 0 0 (by omega)
theorem meshB_ids (r : Int) (p : List S72) : ∀ (d i : Nat) (x : Int), meshB r p d i x = true → ∀ j, i ≤ j → j < i + d → idB (rd_T72 p (j : Int)).f0 (rd_T72 p (j : Int)).f1 (rd_T72 p (j : Int)).f2 = true
  | 0, i, x, h, j, h1, h2 => by omega
  | d + 1, i, x, h, j, h1, h2 => by
    rw [meshB, Bool.and_eq_true, Bool.and_eq_true] at h
    by_cases e : j = i
    · rw [e]; exact h.1
    · exact meshB_ids r p d (i + 1) _ h.2.2 j (by omega) (by omega)
theorem mesh_level {r : Int} {p : List S72} (h : meshOkB r p = true) (j : Nat) (hj : j < p.length) : 0 ≤ (rd_T72 p (j : Int)).f1 ∧ (rd_T72 p (j : Int)).f1 ≤ 4 := (idB_iff.1 (meshB_ids r p p.length 0 0 h j (by omega) (by omega))).2.1

def cvId (x : S119) : S72 := ⟨x.f0, x.f1, x.f2⟩
theorem toIdS_ev (l : List S119) (hn : l.length ≤ 1048576) : Ev (fun k => laws_toIdS.f k l) (l.map cvId) := by
  have h := copy_ev (fun k x3 i => laws_toIdS.l0 k l x3 i) l cvId
    (fun x3 hx => Ev.step (f := fun _ => some x3) (fun k => by simp only [laws_toIdS.l0]; rw [if_neg (by omega)]) (Ev.now _))
    (fun i x3 r h hx e => Ev.step (fun k => by
      simp only [laws_toIdS.l0]
      rw [if_pos (by omega), if_pos (by omega)]
      simp only [laws_toId.f, Option.bind_some]
      rw [if_pos (by omega), w64 (by omega) (by omega), show rd_T119 l (i : Int) = l[i] from getD_at l _ i h]
      rfl) e) (List.replicate l.length z72) (by simp)
  refine Ev.congr (fun k => ?_) h
  unfold laws_toIdS.f
  rw [if_pos (by omega), if_pos (by omega)]
  rfl
theorem eqIdS_ev (a : List S72) (hn : a.length ≤ 1048576) : Ev (fun k => laws_eqIdS.f k a a) true := by
  have h := loop_ev (fun k i => laws_eqIdS.l0 k a a i) a.length true
    (Ev.step (f := fun _ => some true) (fun k => by simp only [laws_eqIdS.l0]; rw [if_neg (by omega)]) (Ev.now _))
    (fun i hi e => Ev.step (fun k => by
      simp only [laws_eqIdS.l0]
      rw [if_pos (by omega), if_pos (by omega), if_pos (by omega)]
      simp only [laws_eqId.f, if_true, Option.bind_some]
      rw [w64 (by omega) (by omega)]
      rfl) e) a.length 0 (by omega)
  refine Ev.congr (fun k => ?_) h
  unfold laws_eqIdS.f
  rw [if_pos rfl]
  rfl

theorem toMesh_ev (r : Int) (p : List S119) (hp : p.length ≤ 1048576) : Ev (fun k => laws_toMesh.f k r p) (r, p.map cvId) := by
  unfold laws_toMesh.f
  exact Ev.bind (toIdS_ev p hp) (Ev.now _)
theorem eqMesh_ev (r : Int) (p : List S72) (hp : p.length ≤ 1048576) : Ev (fun k => laws_eqMesh.f k r p r p) true := by
  unfold laws_eqMesh.f
  exact Ev.congr (fun k => if_pos rfl) (Ev.bind (eqIdS_ev p hp) (Ev.congr (fun k => if_pos rfl) (Ev.now _)))

theorem szMesh_eq (r : Int) (p : List S119) (s : Int) (hs : 0 ≤ s) (hs2 : s ≤ 1048576) (hp : p.length ≤ 9223372036854775807) : ∃ t, laws_szMesh.f r p s = some t ∧ t ≤ 1048576 ∧ (¬ t < 0 → p.length ≤ 1048576) := by
  unfold laws_szMesh.f laws_szIdS.f
  rw [w64 (x := s - (p.length : Int)) (by omega) (by omega)]
  by_cases h1 : s - (p.length : Int) < 0
  · rw [if_pos h1]
    exact ⟨-1, rfl, by omega, by omega⟩
  · rw [if_neg h1]
    simp only [Option.bind_some]
    rw [if_neg h1]
    exact ⟨_, rfl, by omega, by omega⟩

theorem markIdS_l0 (n : Nat) (a : Int) (ha : 0 ≤ a) (hb : a + 3 * n ≤ 1000000000000) : ∀ (d i : Nat), i + d = n → ∀ x : List S72, x.length = n → ∃ l', Ev (fun k => laws_markIdS.l0 k x (a + 3 * i) (i : Int)) (a + 3 * n, l')
  | 0, i, h, x, hx => ⟨x, Ev.step (f := fun _ => some (a + 3 * (n : Int), x)) (fun k => by simp only [laws_markIdS.l0]; rw [if_neg (by omega), show i = n by omega]) (Ev.now _)⟩
  | d + 1, i, h, x, hx => by
    obtain ⟨X, hX, hl⟩ : ∃ X : List S72, X.length = n ∧ ∀ k, laws_markIdS.l0 (k + 1) x (a + 3 * (i : Int)) (i : Int) = laws_markIdS.l0 k X (a + 3 * ((i + 1 : Nat) : Int)) ((i + 1 : Nat) : Int) := by
      refine ⟨?X, ?len, fun k => ?st⟩
      case st =>
        simp only [laws_markIdS.l0, Option.bind_some]
        rw [if_pos (by omega), if_pos (by omega), w64 (x := a + 3 * (i : Int) + 1) (by omega) (by omega), w64 (x := a + 3 * (i : Int) + 1 + 1) (by omega) (by omega), w64 (x := a + 3 * (i : Int) + 1 + 1 + 1) (by omega) (by omega), w64 (x := (i : Int) + 1) (by omega) (by omega), show a + 3 * (i : Int) + 1 + 1 + 1 = a + 3 * ((i + 1 : Nat) : Int) by omega]
        rfl
      case len => simp [hx]
    obtain ⟨l', e⟩ := markIdS_l0 n a ha hb d (i + 1) (by omega) X hX
    exact ⟨l', Ev.step hl e⟩
theorem markIdS_ev (l : List S72) (a : Int) (ha : 0 ≤ a) (hb : a + 3 * l.length ≤ 1000000000000) : ∃ l', Ev (fun k => laws_markIdS.f k l a) (a + 3 * l.length, l') := by
  obtain ⟨l', e⟩ := markIdS_l0 l.length a ha hb l.length 0 (by omega) l rfl
  refine ⟨l', Ev.congr (fun k => ?_) e⟩
  unfold laws_markIdS.f
  simp

theorem markMesh_ev (r : Int) (l : List S72) (a : Int) (ha : 0 ≤ a) (hb : a + 3 * l.length ≤ 1000000000000) : ∃ l', Ev (fun k => laws_markMesh.f k r l a) (a + 3 * l.length, l') := by
  obtain ⟨l', e⟩ := markIdS_ev l a ha hb
  refine ⟨l', ?_⟩
  unfold laws_markMesh.f
  exact Ev.bind e (Ev.now _)

theorem eqIntS_ev (a : List Int) (hn : a.length ≤ 1048576) : Ev (fun k => laws_eqIntS.f k a a) true := by
  have h := loop_ev (fun k i => laws_eqIntS.l0 k a a i) a.length true
    (Ev.step (f := fun _ => some true) (fun k => by simp only [laws_eqIntS.l0]; rw [if_neg (by omega)]) (Ev.now _))
    (fun i hi e => Ev.step (fun k => by
      simp only [laws_eqIntS.l0]
      rw [if_pos (by omega), if_pos (by omega), if_pos (by omega), if_pos (show True from trivial), w64 (by omega) (by omega)]
      rfl) e) a.length 0 (by omega)
  refine Ev.congr (fun k => ?_) h
  unfold laws_eqIntS.f
  rw [if_pos rfl]
  rfl
def iota : Nat → Int → List Int
  | 0, _ => []
  | n + 1, a => a :: iota n (a + 1)
theorem iota_length : ∀ (n : Nat) (a : Int), (iota n a).length = n
  | 0, _ => rfl
  | n + 1, a => by simp [iota, iota_length n]
theorem iota_get : ∀ (n : Nat) (a : Int) (i : Nat), i < n → (iota n a)[i]? = some (a + i)
  | n + 1, a, 0, _ => by simp [iota]
  | n + 1, a, i + 1, h => by simp only [iota, List.getElem?_cons_succ]; rw [iota_get n (a + 1) i (by omega)]; congr 1; push_cast; omega
theorem markIntS_l0 (n : Nat) (a : Int) (ha : 0 ≤ a) (hb : a + n ≤ 1000000000000) : ∀ (d i : Nat), i + d = n → ∀ x : List Int, x.length = n → (∀ j, j < i → x[j]? = some (a + j)) → Ev (fun k => laws_markIntS.l0 k x (a + i) (i : Int)) (a + n, iota n a) := by
  intro d
  induction d with
  | zero =>
    intro i hi x hl he
    refine Ev.step (f := fun _ => some (a + (i : Int), x)) (fun k => ?_) ?_
    · simp only [laws_markIntS.l0]; rw [if_neg (by omega)]
    · have : x = iota n a := by
        apply List.ext_getElem?
        intro j
        by_cases hj : j < i
        · rw [he j hj, iota_get n a j (by omega)]
        · rw [List.getElem?_eq_none (by omega), List.getElem?_eq_none (by rw [iota_length]; omega)]
      rw [this, show i = n by omega]
      exact Ev.now _
  | succ d ih =>
    intro i hi x hl he
    refine Ev.step (f := fun k => laws_markIntS.l0 k (x.set i (a + i)) (a + ((i + 1 : Nat) : Int)) ((i + 1 : Nat) : Int)) (fun k => ?_) (ih (i + 1) (by omega) _ (by simpa using hl) ?_)
    · simp only [laws_markIntS.l0]
      rw [if_pos (by omega), if_pos (by omega), w64 (x := (i : Int) + 1) (by omega) (by omega), w64 (by omega) (by omega), Int.add_assoc]
      rfl
    · intro j hj
      rw [List.getElem?_set]
      by_cases hji : i = j
      · subst hji
        rw [if_pos rfl, if_pos (by omega)]
      · rw [if_neg hji]
        exact he j (by omega)
theorem markIntS_ev (l : List Int) (a : Int) (ha : 0 ≤ a) (hb : a + l.length ≤ 1000000000000) : Ev (fun k => laws_markIntS.f k l a) (a + l.length, iota l.length a) := by
  have h := markIntS_l0 l.length a ha hb l.length 0 (by omega) l rfl (fun j hj => absurd hj (by omega))
  refine Ev.congr (g := fun k => laws_markIntS.f k l a) (fun k => ?_) h
  unfold laws_markIntS.f
  simp
theorem heldIntS_l0 (n : Nat) (a : Int) (ha : 0 ≤ a) (hb : a + n ≤ 1000000000000) : ∀ (d i : Nat), i + d = n → Ev (fun k => laws_heldIntS.l0 k (iota n a) (a + i) (i : Int)) (a + n) := by
  intro d
  induction d with
  | zero =>
    intro i hi
    refine Ev.step (f := fun _ => some (a + (i : Int))) (fun k => ?_) ?_
    · simp only [laws_heldIntS.l0]; rw [if_neg (by rw [iota_length]; omega)]
    · rw [show i = n by omega]
      exact Ev.now _
  | succ d ih =>
    intro i hi
    refine Ev.step (f := fun k => laws_heldIntS.l0 k (iota n a) (a + ((i + 1 : Nat) : Int)) ((i + 1 : Nat) : Int)) (fun k => ?_) (ih (i + 1) (by omega))
    have hg : rd (iota n a) (i : Int) = a + i := by
      unfold rd
      rw [List.getD_eq_getElem?_getD, Int.toNat_natCast, iota_get n a i (by omega)]
      rfl
    simp only [laws_heldIntS.l0]
    rw [if_pos (by rw [iota_length]; omega), if_pos (by omega), if_pos hg, w64 (x := (i : Int) + 1) (by omega) (by omega), w64 (by omega) (by omega), Int.add_assoc]
    rfl
theorem heldIntS_ev (n : Nat) (a : Int) (ha : 0 ≤ a) (hb : a + n ≤ 1000000000000) : Ev (fun k => laws_heldIntS.f k (iota n a) a) (a + n) := by
  refine Ev.congr (g := fun k => laws_heldIntS.f k (iota n a) a) (fun k => ?_) (heldIntS_l0 n a ha hb n 0 (by omega))
  unfold laws_heldIntS.f
  simp
def wts (p : List S72) : Nat → Nat → List Int
  | 0, _ => []
  | d + 1, i => shl .i64 1 (rd_T72 p (i : Int)).f1 :: wts p d (i + 1)
theorem wts_length (p : List S72) : ∀ d i, (wts p d i).length = d
  | 0, _ => rfl
  | d + 1, i => by simp [wts, wts_length p d (i + 1)]
theorem impl_w_l0 (p : List S72) (hp : p.length ≤ 1048576) (hl : ∀ j : Nat, j < p.length → 0 ≤ (rd_T72 p (j : Int)).f1 ∧ (rd_T72 p (j : Int)).f1 ≤ 4) : ∀ (d i : Nat) (o : List Int), i + d = p.length → o.length = i → Ev (fun k => impl_WeightsOf.l0 k o p (p.length : Int) (i : Int)) (o ++ wts p d i)
  | 0, i, o, h, ho => by
    rw [wts, List.append_nil]
    exact Ev.step (f := fun _ => some o) (fun k => by simp only [impl_WeightsOf.l0]; rw [if_neg (by omega)]) (Ev.now _)
  | d + 1, i, o, h, ho => by
    have hl2 := hl i (by omega)
    have e := impl_w_l0 p hp hl d (i + 1) (o ++ [shl .i64 1 (rd_T72 p (i : Int)).f1]) (by omega) (by simp [ho])
    rw [List.append_assoc] at e
    exact Ev.step (fun k => by
      simp only [impl_WeightsOf.l0]
      rw [if_pos (by omega), if_pos (by omega), if_pos (by omega), if_pos hl2.1, if_pos (by omega), w64 (by omega) (by omega)]
      rfl) e
theorem spec_w_l0 (r : Int) (p : List S72) (hp : p.length ≤ 1048576) (hm : meshOkB r p = true) (hl : ∀ j : Nat, j < p.length → 0 ≤ (rd_T72 p (j : Int)).f1 ∧ (rd_T72 p (j : Int)).f1 ≤ 4) : ∀ (d i : Nat) (o : List Int), i + d = p.length → o.length = i → Ev (fun k => spec_WeightsOf.l0 k o (i : Int) r p) (o ++ wts p d i)
  | 0, i, o, h, ho => by
    rw [wts, List.append_nil]
    exact Ev.step (f := fun _ => some o) (fun k => by simp only [spec_WeightsOf.l0]; rw [if_neg (by omega)]) (Ev.now _)
  | d + 1, i, o, h, ho => by
    have hl2 := hl i (by omega)
    have e := spec_w_l0 r p hp hm hl d (i + 1) (o ++ [shl .i64 1 (rd_T72 p (i : Int)).f1]) (by omega) (by simp [ho])
    rw [List.append_assoc] at e
    have em := spec_mesh_ev r p hp
    rw [hm] at em
    refine Ev.step (f := fun k => (spec_MeshOk.f k r p).bind fun t => if t = true then spec_WeightsOf.l0 k (o ++ [shl .i64 1 (rd_T72 p (i : Int)).f1]) ((i + 1 : Nat) : Int) r p else some o) (fun k => by
      simp only [spec_WeightsOf.l0]
      rw [if_pos (by omega), if_pos (by omega), (level_facts _ hl2).1, if_pos hl2.1, if_pos (by omega), w64 (by omega) (by omega)]
      rfl) (Ev.bind em (Ev.congr (fun k => if_pos rfl) e))
theorem same (r : Int) (p : List S72) (hp : p.length ≤ 1048576) : ∃ w : List Int, w.length ≤ 1048576 ∧ Ev (fun k => spec_WeightsOf.f k r p) w ∧ Ev (fun k => impl_WeightsOf.f k r p) w := by
  have e1 := impl_mesh_ev r p hp
  have e2 := spec_mesh_ev r p hp
  cases hm : meshOkB r p with
  | true =>
    have hl := fun j hj => mesh_level hm j hj
    rw [hm] at e1
    refine ⟨wts p p.length 0, by rw [wts_length]; exact hp, ?_, ?_⟩
    · unfold spec_WeightsOf.f
      exact spec_w_l0 r p hp hm hl p.length 0 [] (by omega) rfl
    · unfold impl_WeightsOf.f
      exact Ev.bind e1 (Ev.congr (fun k => if_pos rfl) (impl_w_l0 p hp hl p.length 0 [] (by omega) rfl))
  | false =>
    rw [hm] at e1 e2
    refine ⟨[], by simp, ?_, ?_⟩
    · unfold spec_WeightsOf.f
      by_cases h0 : p.length = 0
      · exact Ev.step (f := fun _ => some []) (fun k => by simp only [spec_WeightsOf.l0]; rw [if_neg (by omega)]) (Ev.now _)
      · refine Ev.step (f := fun k => (spec_MeshOk.f k r p).bind fun t => if t = true then (if 0 ≤ (0 : Int) then (if 0 ≤ (IntKind.u64.wrap (rd_T72 p 0).f1) then (if ([] : List Int).length < 17592186044416 then (spec_WeightsOf.l0 k ([] ++ [shl .i64 1 (IntKind.u64.wrap (rd_T72 p 0).f1)]) (wrap64 (0 + 1)) r p) else (none)) else (none)) else (none)) else some []) (fun k => by
          simp only [spec_WeightsOf.l0]
          rw [if_pos (by omega)]) (Ev.bind e2 (Ev.congr (fun k => if_neg (by decide)) (Ev.now _)))
    · unfold impl_WeightsOf.f
      exact Ev.bind e1 (Ev.congr (fun k => if_neg (by decide)) (Ev.now _))
theorem law_ev (r : Int) (p : List S119) (hp : p.length ≤ 9223372036854775807) : ∃ k, laws_FnExactWeightsOf.f k r p = some true := by
  obtain ⟨t, ht, _, hs⟩ := szMesh_eq r p 1048576 (by omega) (by omega) hp
  refine Ev.rounds (g := fun k => laws_FnExactWeightsOf.f k r p) ?_
  unfold laws_FnExactWeightsOf.f
  by_cases h0 : t < 0
  · exact Ev.congr (fun k => by rw [ht, Option.bind_some, if_pos h0]) (Ev.now _)
  · have h1 := hs h0
    have h3 : (p.map cvId).length ≤ 1048576 := by rw [List.length_map]; exact h1
    obtain ⟨w, hw, e1, e2⟩ := same r (p.map cvId) h3
    obtain ⟨l', em⟩ := markMesh_ev r (p.map cvId) 1 (by omega) (by omega)
    have tm := toMesh_ev r p h1
    have qm := eqMesh_ev r (p.map cvId) h3
    have qw := eqIntS_ev w hw
    have hm := markIntS_ev w 1 (by omega) (by omega)
    have hh := heldIntS_ev w.length 1 (by omega) (by omega)
    have hneg : ¬ ((1 : Int) + 3 * ((p.map cvId).length : Int) < 0) := by omega
    have hneg' : ¬ ((1 : Int) + (w.length : Int) < 0) := by omega
    refine Ev.congr (fun k => by rw [ht, Option.bind_some, if_neg h0]) ?_
    refine Ev.bind tm (Ev.bind e1 (Ev.bind tm (Ev.bind e2 (Ev.bind qw ?_))))
    simp only [if_true]
    refine Ev.bind tm (Ev.bind qm ?_)
    simp only [if_true]
    refine Ev.bind em ?_
    simp only [hneg, if_false]
    refine Ev.bind qw ?_
    refine Ev.step (f := fun k => (laws_markIntS.f k w 1).bind fun bt => ((laws_heldIntS.f k bt.2 1).bind fun t1 => (if t1 < 0 then (some false) else (if t1 = bt.1 then ((laws_toMesh.f k r p).bind fun bt2 => ((impl_WeightsOf.f k bt2.1 bt2.2).bind fun t2 => ((laws_eqIntS.f k t2 w).bind fun t3 => (if t3 = true then ((laws_heldIntS.f k bt.2 1).bind fun t4 => (if t4 < 0 then (some false) else (if t4 = bt.1 then (some true) else (some false)))) else (some false))))) else (some false))))) (fun k => ?_) ?_
    · simp only [laws_FnExactWeightsOf.j0]; rw [if_neg (by decide)]
    refine Ev.bind hm (Ev.bind hh ?_)
    simp only [hneg', if_false, if_true]
    refine Ev.bind tm (Ev.bind e2 (Ev.bind qw ?_))
    simp only [if_true]
    refine Ev.bind hh ?_
    simp only [hneg', if_false, if_true]
    exact Ev.now _

end Go.Proofs.Ytakcljnimggjjaa.UWeightsOf
