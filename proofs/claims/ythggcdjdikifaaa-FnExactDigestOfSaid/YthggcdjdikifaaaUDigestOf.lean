/- DigestOf of the program and of the reference answer the same at every state. -/
import Derived.Test.YthggcdjdikifaaaQFnExactDigestOf
import Derived.Test.YthggcdjdikifaaaPu
set_option linter.unusedVariables false
set_option linter.unusedSimpArgs false
namespace Go.Proofs.Ythggcdjdikifaaa.UDigestOf
open Go.RowKit Go.Proofs.Ythggcdjdikifaaa.PFnExactDigestOf Go.Proofs.YthggcdjdikifaaaW.PrintWords Go.Proofs.YthggcdjdikifaaaW.PrintLast Go.Proofs.YthggcdjdikifaaaW.PrintMore Go.Proofs.Ythggcdjdikifaaa.Pu

theorem in_b (n a b : Int) : spec_l01In.f n a b = some (decide (a ≤ n ∧ n ≤ b)) := by
  unfold spec_l01In.f
  by_cases h : n ≥ a
  · rw [if_pos h]; simp [show a ≤ n from h]
  · rw [if_neg h]; simp [show ¬ a ≤ n from h]
theorem within_b (n a b : Int) : impl_within.f n a b = some (decide (a ≤ n ∧ n ≤ b)) := by
  unfold impl_within.f
  by_cases h : n ≥ a
  · rw [if_pos h]; simp [show a ≤ n from h]
  · rw [if_neg h]; simp [show ¬ a ≤ n from h]

theorem level_facts (b : Int) (h : 0 ≤ b ∧ b ≤ 4) : IntKind.u64.wrap b = b ∧ 1 ≤ shl .i64 1 b ∧ shl .i64 1 b ≤ 16 ∧ 1 ≤ shr .i64 16 b ∧ shr .i64 16 b ≤ 16 ∧ shl .i64 1 b * shr .i64 16 b = 16 := by
  have : b = 0 ∨ b = 1 ∨ b = 2 ∨ b = 3 ∨ b = 4 := by omega
  rcases this with rfl | rfl | rfl | rfl | rfl <;> decide
def idB (a b c : Int) : Bool := decide (0 ≤ a ∧ a ≤ 7) && (decide (0 ≤ b ∧ b ≤ 4) && decide (0 ≤ c ∧ c < shl .i64 1 b))
theorem idB_iff {a b c : Int} : idB a b c = true ↔ (0 ≤ a ∧ a ≤ 7) ∧ (0 ≤ b ∧ b ≤ 4) ∧ 0 ≤ c ∧ c < shl .i64 1 b := by simp [idB]
theorem impl_idOk (a b c : Int) : impl_IdOk.f a b c = some (idB a b c) := by
  unfold impl_IdOk.f impl_isLevel.f idB
  simp only [within_b, Option.bind_some]
  by_cases h1 : 0 ≤ a ∧ a ≤ 7
  · rw [decide_eq_true h1, if_pos rfl, Bool.true_and]
    by_cases h2 : 0 ≤ b ∧ b ≤ 4
    · obtain ⟨_, f2, f3, _⟩ := level_facts b h2
      rw [decide_eq_true h2, if_pos rfl, if_pos h2.1, Bool.true_and, w64 (by omega) (by omega)]
      congr 1
      exact decide_eq_decide.2 (by omega)
    · rw [decide_eq_false h2, if_neg (by decide), Bool.false_and]
  · rw [decide_eq_false h1, if_neg (by decide), Bool.false_and]
theorem spec_idOk (a b c : Int) : spec_IdOk.f a b c = some (idB a b c) := by
  unfold spec_IdOk.f idB
  simp only [in_b, Option.bind_some]
  by_cases h1 : 0 ≤ a ∧ a ≤ 7
  · rw [decide_eq_true h1, if_pos rfl, Bool.true_and]
    by_cases h2 : 0 ≤ b ∧ b ≤ 4
    · obtain ⟨f1, f2, f3, _⟩ := level_facts b h2
      rw [decide_eq_true h2, if_pos rfl, Bool.true_and, f1]
      by_cases h3 : c ≥ 0
      · rw [if_pos h3, if_pos h2.1]
        congr 1
        exact decide_eq_decide.2 (by omega)
      · rw [if_neg h3, decide_eq_false (by omega)]
    · rw [decide_eq_false h2, if_neg (by decide), Bool.false_and]
  · rw [decide_eq_false h1, if_neg (by decide), Bool.false_and]
def widV (b : Int) : Int := if 0 ≤ b ∧ b ≤ 4 then shr .i64 16 b else 0
theorem impl_width (b : Int) : impl_WidthOf.f b = some (widV b) := by
  unfold impl_WidthOf.f impl_isLevel.f widV
  simp only [within_b, Option.bind_some]
  by_cases h2 : 0 ≤ b ∧ b ≤ 4
  · rw [decide_eq_true h2, if_pos rfl, if_pos h2.1, if_pos h2]
  · rw [decide_eq_false h2, if_neg (by decide), if_neg h2]
theorem spec_width (b : Int) : spec_WidthOf.f b = some (widV b) := by
  unfold spec_WidthOf.f widV
  simp only [in_b, Option.bind_some]
  by_cases h2 : 0 ≤ b ∧ b ≤ 4
  · rw [decide_eq_true h2, if_pos rfl, (level_facts b h2).1, if_pos h2.1, if_pos h2]
  · rw [decide_eq_false h2, if_neg (by decide), if_neg h2]
def startV (a b c : Int) : Int := if idB a b c = true then wrap64 (wrap64 (a * 16) + wrap64 (c * widV b)) else -1
theorem impl_start (a b c : Int) : impl_StartOf.f a b c = some (startV a b c) := by
  unfold impl_StartOf.f startV
  rw [impl_idOk, Option.bind_some, impl_width]
  split <;> rfl
theorem spec_start (a b c : Int) : spec_StartOf.f a b c = some (startV a b c) := by
  unfold spec_StartOf.f startV
  rw [spec_idOk, Option.bind_some, spec_width]
  split <;> rfl
def endV (a b c : Int) : Int := wrap64 (startV a b c + widV b)
theorem impl_end (a b c : Int) : impl_endOf.f a b c = some (endV a b c) := by
  unfold impl_endOf.f endV
  rw [impl_start, impl_width]
  rfl
theorem spec_end (a b c : Int) : spec_l04End.f a b c = some (endV a b c) := by
  unfold spec_l04End.f endV
  rw [spec_start, spec_width]
  rfl
/-- the leaves from i on continue at position x -/
def meshB (r : Int) (p : List S80) : Nat → Nat → Int → Bool
  | 0, _, x => decide (1 ≤ r ∧ r ≤ 8) && (x == wrap64 (r * 16))
  | d + 1, i, x => idB (rd_T80 p (i : Int)).f0 (rd_T80 p (i : Int)).f1 (rd_T80 p (i : Int)).f2 && (decide (startV (rd_T80 p (i : Int)).f0 (rd_T80 p (i : Int)).f1 (rd_T80 p (i : Int)).f2 = x) && meshB r p d (i + 1) (endV (rd_T80 p (i : Int)).f0 (rd_T80 p (i : Int)).f1 (rd_T80 p (i : Int)).f2))
theorem impl_mesh_l0 (r : Int) (p : List S80) (hp : p.length ≤ 1048576) : ∀ (d i : Nat) (x : Int), i + d = p.length → Ev (fun k => impl_MeshOk.l0 k x p (p.length : Int) (i : Int) r p) (meshB r p d i x)
  | 0, i, x, h => by
    rw [meshB]
    refine Ev.step (f := fun _ => if decide (1 ≤ r ∧ r ≤ 8) = true then some (x == wrap64 (r * 16)) else some false) (fun k => by simp only [impl_MeshOk.l0]; rw [if_neg (by omega), within_b, Option.bind_some]) ?_
    cases decide (1 ≤ r ∧ r ≤ 8)
    · exact Ev.now _
    · exact Ev.now _
  | d + 1, i, x, h => by
    rw [meshB]
    have hs : ∀ k, impl_MeshOk.l0 (k + 1) x p (p.length : Int) (i : Int) r p = if idB (rd_T80 p (i : Int)).f0 (rd_T80 p (i : Int)).f1 (rd_T80 p (i : Int)).f2 = true then (if startV (rd_T80 p (i : Int)).f0 (rd_T80 p (i : Int)).f1 (rd_T80 p (i : Int)).f2 = x then impl_MeshOk.l0 k (endV (rd_T80 p (i : Int)).f0 (rd_T80 p (i : Int)).f1 (rd_T80 p (i : Int)).f2) p (p.length : Int) ((i + 1 : Nat) : Int) r p else some false) else some false := fun k => by
      simp only [impl_MeshOk.l0]
      rw [if_pos (by omega), if_pos (by omega), if_pos (by omega), impl_idOk, impl_start, impl_end, w64 (by omega) (by omega)]
      rfl
    by_cases h1 : idB (rd_T80 p (i : Int)).f0 (rd_T80 p (i : Int)).f1 (rd_T80 p (i : Int)).f2 = true
    · by_cases h2 : startV (rd_T80 p (i : Int)).f0 (rd_T80 p (i : Int)).f1 (rd_T80 p (i : Int)).f2 = x
      · rw [h1, decide_eq_true h2, Bool.true_and, Bool.true_and]
        exact Ev.step (fun k => by rw [hs, if_pos h1, if_pos h2]) (impl_mesh_l0 r p hp d (i + 1) _ (by omega))
      · rw [h1, decide_eq_false h2, Bool.true_and, Bool.false_and]
        exact Ev.step (f := fun _ => some false) (fun k => by rw [hs, if_pos h1, if_neg h2]) (Ev.now _)
    · rw [Bool.not_eq_true] at h1
      rw [h1, Bool.false_and]
      exact Ev.step (f := fun _ => some false) (fun k => by rw [hs, h1, if_neg (by decide)]) (Ev.now _)
theorem spec_mesh_l0 (r : Int) (p : List S80) (hp : p.length ≤ 1048576) : ∀ (d i : Nat) (x : Int), i + d = p.length → Ev (fun k => spec_MeshOk.l0 k x (i : Int) r p) (meshB r p d i x)
  | 0, i, x, h => by
    rw [meshB]
    refine Ev.step (f := fun _ => if decide (1 ≤ r ∧ r ≤ 8) = true then some (x == wrap64 (r * 16)) else some false) (fun k => by simp only [spec_MeshOk.l0]; rw [if_neg (by omega), in_b, Option.bind_some]) ?_
    cases decide (1 ≤ r ∧ r ≤ 8)
    · exact Ev.now _
    · exact Ev.now _
  | d + 1, i, x, h => by
    rw [meshB]
    have hs : ∀ k, spec_MeshOk.l0 (k + 1) x (i : Int) r p = if idB (rd_T80 p (i : Int)).f0 (rd_T80 p (i : Int)).f1 (rd_T80 p (i : Int)).f2 = true then (if startV (rd_T80 p (i : Int)).f0 (rd_T80 p (i : Int)).f1 (rd_T80 p (i : Int)).f2 = x then spec_MeshOk.l0 k (endV (rd_T80 p (i : Int)).f0 (rd_T80 p (i : Int)).f1 (rd_T80 p (i : Int)).f2) ((i + 1 : Nat) : Int) r p else some false) else some false := fun k => by
      simp only [spec_MeshOk.l0]
      rw [if_pos (by omega), if_pos (by omega), spec_idOk, spec_start, spec_end, w64 (by omega) (by omega)]
      rfl
    by_cases h1 : idB (rd_T80 p (i : Int)).f0 (rd_T80 p (i : Int)).f1 (rd_T80 p (i : Int)).f2 = true
    · by_cases h2 : startV (rd_T80 p (i : Int)).f0 (rd_T80 p (i : Int)).f1 (rd_T80 p (i : Int)).f2 = x
      · rw [h1, decide_eq_true h2, Bool.true_and, Bool.true_and]
        exact Ev.step (fun k => by rw [hs, if_pos h1, if_pos h2]) (spec_mesh_l0 r p hp d (i + 1) _ (by omega))
      · rw [h1, decide_eq_false h2, Bool.true_and, Bool.false_and]
        exact Ev.step (f := fun _ => some false) (fun k => by rw [hs, if_pos h1, if_neg h2]) (Ev.now _)
    · rw [Bool.not_eq_true] at h1
      rw [h1, Bool.false_and]
      exact Ev.step (f := fun _ => some false) (fun k => by rw [hs, h1, if_neg (by decide)]) (Ev.now _)
def meshOkB (r : Int) (p : List S80) : Bool := meshB r p p.length 0 0
theorem impl_mesh_ev (r : Int) (p : List S80) (hp : p.length ≤ 1048576) : Ev (fun k => impl_MeshOk.f k r p) (meshOkB r p) := by
  unfold impl_MeshOk.f
  exact impl_mesh_l0 r p hp p.length 0 0 (by omega)
theorem spec_mesh_ev (r : Int) (p : List S80) (hp : p.length ≤ 1048576) : Ev (fun k => spec_MeshOk.f k r p) (meshOkB r p) := by
  unfold spec_MeshOk.f
  exact spec_mesh_l0 r p hp p.length 0 0 (by omega)
theorem meshB_ids (r : Int) (p : List S80) : ∀ (d i : Nat) (x : Int), meshB r p d i x = true → ∀ j, i ≤ j → j < i + d → idB (rd_T80 p (j : Int)).f0 (rd_T80 p (j : Int)).f1 (rd_T80 p (j : Int)).f2 = true
  | 0, i, x, h, j, h1, h2 => by omega
  | d + 1, i, x, h, j, h1, h2 => by
    rw [meshB, Bool.and_eq_true, Bool.and_eq_true] at h
    by_cases e : j = i
    · rw [e]; exact h.1
    · exact meshB_ids r p d (i + 1) _ h.2.2 j (by omega) (by omega)
theorem mesh_level {r : Int} {p : List S80} (h : meshOkB r p = true) (j : Nat) (hj : j < p.length) : 0 ≤ (rd_T80 p (j : Int)).f1 ∧ (rd_T80 p (j : Int)).f1 ≤ 4 := (idB_iff.1 (meshB_ids r p p.length 0 0 h j (by omega) (by omega))).2.1

def cvId (x : S105) : S80 := ⟨x.f0, x.f1, x.f2⟩
theorem toIdS_ev (l : List S105) (hn : l.length ≤ 1048576) : Ev (fun k => laws_toIdS.f k l) (l.map cvId) := by
  have h := copy_ev (fun k x3 i => laws_toIdS.l0 k l x3 i) l cvId
    (fun x3 hx => Ev.step (f := fun _ => some x3) (fun k => by simp only [laws_toIdS.l0]; rw [if_neg (by omega)]) (Ev.now _))
    (fun i x3 r h hx e => Ev.step (fun k => by
      simp only [laws_toIdS.l0]
      rw [if_pos (by omega), if_pos (by omega)]
      simp only [laws_toId.f, Option.bind_some]
      rw [if_pos (by omega), w64 (by omega) (by omega), show rd_T105 l (i : Int) = l[i] from getD_at l _ i h]
      rfl) e) (List.replicate l.length z80) (by simp)
  refine Ev.congr (fun k => ?_) h
  unfold laws_toIdS.f
  rw [if_pos (by omega), if_pos (by omega)]
  rfl
theorem eqIdS_ev (a : List S80) (hn : a.length ≤ 1048576) : Ev (fun k => laws_eqIdS.f k a a) true := by
  have h := loop_ev (fun k i => laws_eqIdS.l0 k a a i) a.length true
    (Ev.step (f := fun _ => some true) (fun k => by simp only [laws_eqIdS.l0]; rw [if_neg (by omega)]) (Ev.now _))
    (fun i hi e => Ev.step (fun k => by
      simp only [laws_eqIdS.l0]
      rw [if_pos (by omega), if_pos (by omega), if_pos (by omega)]
      simp only [laws_eqId.f, if_true, Option.bind_some]
      rw [w64 (by omega) (by omega)]
      rfl) e) a.length 0 (by omega)
  refine Ev.congr (fun k => ?_) h
  unfold laws_eqIdS.f
  rw [if_pos rfl]
  rfl

theorem toMesh_ev (r : Int) (p : List S105) (hp : p.length ≤ 1048576) : Ev (fun k => laws_toMesh.f k r p) (r, p.map cvId) := by
  unfold laws_toMesh.f
  exact Ev.bind (toIdS_ev p hp) (Ev.now _)
theorem eqMesh_ev (r : Int) (p : List S80) (hp : p.length ≤ 1048576) : Ev (fun k => laws_eqMesh.f k r p r p) true := by
  unfold laws_eqMesh.f
  exact Ev.congr (fun k => if_pos rfl) (Ev.bind (eqIdS_ev p hp) (Ev.congr (fun k => if_pos rfl) (Ev.now _)))

theorem szMesh_eq (r : Int) (p : List S105) (s : Int) (hs : 0 ≤ s) (hs2 : s ≤ 1048576) (hp : p.length ≤ 9223372036854775807) : ∃ t, laws_szMesh.f r p s = some t ∧ t ≤ 1048576 ∧ (¬ t < 0 → p.length ≤ 1048576) := by
  unfold laws_szMesh.f laws_szIdS.f
  rw [w64 (x := s - (p.length : Int)) (by omega) (by omega)]
  by_cases h1 : s - (p.length : Int) < 0
  · rw [if_pos h1]
    exact ⟨-1, rfl, by omega, by omega⟩
  · rw [if_neg h1]
    simp only [Option.bind_some]
    rw [if_neg h1]
    exact ⟨_, rfl, by omega, by omega⟩

theorem toIntS_ev (l : List Int) (hn : l.length ≤ 1048576) : Ev (fun k => laws_toIntS.f k l) l := by
  have h := copy_ev (fun k x3 i => laws_toIntS.l0 k l x3 i) l id
    (fun x3 hx => Ev.step (f := fun _ => some x3) (fun k => by simp only [laws_toIntS.l0]; rw [if_neg (by omega)]) (Ev.now _))
    (fun i x3 r h hx e => Ev.step (fun k => by
      simp only [laws_toIntS.l0]
      rw [if_pos (by omega), if_pos (by omega), if_pos (by omega), w64 (by omega) (by omega), rd_at l i h]
      rfl) e) (List.replicate l.length 0) (by simp)
  rw [List.map_id] at h
  refine Ev.congr (fun k => ?_) h
  unfold laws_toIntS.f
  rw [if_pos (by omega), if_pos (by omega)]
  rfl

theorem eqIntS_ev (a : List Int) (hn : a.length ≤ 1048576) : Ev (fun k => laws_eqIntS.f k a a) true := by
  have h := loop_ev (fun k i => laws_eqIntS.l0 k a a i) a.length true
    (Ev.step (f := fun _ => some true) (fun k => by simp only [laws_eqIntS.l0]; rw [if_neg (by omega)]) (Ev.now _))
    (fun i hi e => Ev.step (fun k => by
      simp only [laws_eqIntS.l0]
      rw [if_pos (by omega), if_pos (by omega), if_pos (by omega), if_pos (show True from trivial), w64 (by omega) (by omega)]
      rfl) e) a.length 0 (by omega)
  refine Ev.congr (fun k => ?_) h
  unfold laws_eqIntS.f
  rw [if_pos rfl]
  rfl

theorem toState_ev (r : Int) (p : List S105) (m t b : List Int) (hp : p.length ≤ 1048576) (hm : m.length ≤ 1048576) (ht : t.length ≤ 1048576) (hb : b.length ≤ 1048576) : Ev (fun k => laws_toState.f k r p m t b) (r, p.map cvId, m, t, b) := by
  unfold laws_toState.f
  exact Ev.bind (toMesh_ev r p hp) (Ev.bind (toIntS_ev m hm) (Ev.bind (toIntS_ev t ht) (Ev.bind (toIntS_ev b hb) (Ev.now _))))
theorem eqState_ev (r : Int) (p : List S80) (m t b : List Int) (hp : p.length ≤ 1048576) (hm : m.length ≤ 1048576) (ht : t.length ≤ 1048576) (hb : b.length ≤ 1048576) : Ev (fun k => laws_eqState.f k r p m t b r p m t b) true := by
  unfold laws_eqState.f
  exact Ev.bind (eqMesh_ev r p hp) (Ev.congr (fun k => if_pos rfl) (Ev.bind (eqIntS_ev m hm) (Ev.congr (fun k => if_pos rfl) (Ev.bind (eqIntS_ev t ht) (Ev.congr (fun k => if_pos rfl) (Ev.bind (eqIntS_ev b hb) (Ev.congr (fun k => if_pos rfl) (Ev.now _))))))))
theorem szIntS_eq (l : List Int) (s : Int) (hs : 0 ≤ s) (hs2 : s ≤ 1048576) (hl : l.length ≤ 9223372036854775807) : ∃ t, laws_szIntS.f l s = some t ∧ t ≤ 1048576 ∧ (¬ t < 0 → l.length ≤ 1048576) := by
  unfold laws_szIntS.f
  rw [w64 (x := s - (l.length : Int)) (by omega) (by omega)]
  by_cases h1 : s - (l.length : Int) < 0
  · rw [if_pos h1]
    exact ⟨-1, rfl, by omega, by omega⟩
  · rw [if_neg h1]
    exact ⟨_, rfl, by omega, by omega⟩
theorem szState_eq (r : Int) (p : List S105) (m t b : List Int) (s : Int) (hs : 0 ≤ s) (hs2 : s ≤ 1048576) (hp : p.length ≤ 9223372036854775807) (hm : m.length ≤ 9223372036854775807) (ht : t.length ≤ 9223372036854775807) (hb : b.length ≤ 9223372036854775807) :
    ∃ v, laws_szState.f r p m t b s = some v ∧ v ≤ 1048576 ∧ (¬ v < 0 → p.length ≤ 1048576 ∧ m.length ≤ 1048576 ∧ t.length ≤ 1048576 ∧ b.length ≤ 1048576) := by
  have bad : ∀ P : Prop, ∃ v : Int, (some (-1) : Option Int) = some v ∧ v ≤ 1048576 ∧ (¬ v < 0 → P) := fun P => ⟨-1, rfl, by omega, fun h => absurd (show (-1 : Int) < 0 by omega) h⟩
  unfold laws_szState.f
  obtain ⟨v1, e1, a1, f1⟩ := szMesh_eq r p s hs hs2 hp
  rw [e1, Option.bind_some]
  by_cases c1 : v1 < 0
  · rw [if_pos c1]; exact bad _
  rw [if_neg c1]
  obtain ⟨v2, e2, a2, f2⟩ := szIntS_eq m v1 (by omega) a1 hm
  rw [e2, Option.bind_some]
  by_cases c2 : v2 < 0
  · rw [if_pos c2]; exact bad _
  rw [if_neg c2]
  obtain ⟨v3, e3, a3, f3⟩ := szIntS_eq t v2 (by omega) a2 ht
  rw [e3, Option.bind_some]
  by_cases c3 : v3 < 0
  · rw [if_pos c3]; exact bad _
  rw [if_neg c3]
  obtain ⟨v4, e4, a4, f4⟩ := szIntS_eq b v3 (by omega) a3 hb
  rw [e4, Option.bind_some]
  by_cases c4 : v4 < 0
  · rw [if_pos c4]; exact bad _
  rw [if_neg c4]
  exact ⟨v4, rfl, a4, fun _ => ⟨f1 c1, f2 c2, f3 c3, f4 c4⟩⟩

theorem abs_iff (e : Int) (h : -100 ≤ e ∧ e ≤ 100) : ∃ g, impl_absolute.f (wrap64 e) = some g ∧ (g > 1 ↔ e > 1 ∨ e < -1) := by
  unfold impl_absolute.f
  rw [w64 (x := e) (by omega) (by omega), w64 (x := -e) (by omega) (by omega)]
  refine ⟨_, rfl, ?_⟩
  unfold mx
  split <;> omega
theorem unb_l0 (r : Int) (p : List S80) (hp : p.length ≤ 1048576) (hl : ∀ j : Nat, j < p.length → 0 ≤ (rd_T80 p (j : Int)).f1 ∧ (rd_T80 p (j : Int)).f1 ≤ 4) : ∀ (d i : Nat), i + d + 1 = p.length →
    ∃ v, Ev (fun k => impl_Mesh_unbalanced.l0 k ((p.length : Int) - 1) (i : Int) r p) v ∧ Ev (fun k => spec_l05First.l0 k (i : Int) r p) v
  | 0, i, h => ⟨-1, Ev.step (f := fun _ => some (-1)) (fun k => by simp only [impl_Mesh_unbalanced.l0]; rw [if_neg (by omega)]) (Ev.now _), Ev.step (f := fun _ => some (-1)) (fun k => by simp only [spec_l05First.l0]; rw [w64 (x := (i : Int) + 1) (by omega) (by omega), if_neg (by omega)]) (Ev.now _)⟩
  | d + 1, i, h => by
    have h1 := hl i (by omega)
    have h2 := hl (i + 1) (by omega)
    have w1 : wrap64 ((i : Int) + 1) = ((i + 1 : Nat) : Int) := by rw [w64 (by omega) (by omega)]; omega
    obtain ⟨g, hg, hgi⟩ := abs_iff ((rd_T80 p (i : Int)).f1 - (rd_T80 p ((i + 1 : Nat) : Int)).f1) (by omega)
    have w2 : wrap64 ((rd_T80 p (i : Int)).f1 - (rd_T80 p ((i + 1 : Nat) : Int)).f1) = (rd_T80 p (i : Int)).f1 - (rd_T80 p ((i + 1 : Nat) : Int)).f1 := w64 (by omega) (by omega)
    by_cases hc : (rd_T80 p (i : Int)).f1 - (rd_T80 p ((i + 1 : Nat) : Int)).f1 > 1 ∨ (rd_T80 p (i : Int)).f1 - (rd_T80 p ((i + 1 : Nat) : Int)).f1 < -1
    · refine ⟨(i : Int), Ev.step (f := fun _ => some (i : Int)) (fun k => ?_) (Ev.now _), Ev.step (f := fun _ => some (i : Int)) (fun k => ?_) (Ev.now _)⟩
      · simp only [impl_Mesh_unbalanced.l0]
        rw [if_pos (by omega), if_pos (by omega), if_pos (by omega), w1, if_pos (by omega), if_pos (by omega), hg, Option.bind_some, if_pos (hgi.2 hc)]
      · simp only [spec_l05First.l0]
        rw [w1, if_pos (by omega), if_pos (by omega), if_pos (by omega), if_pos (by omega), w2]
        by_cases h3 : (rd_T80 p (i : Int)).f1 - (rd_T80 p ((i + 1 : Nat) : Int)).f1 > 1
        · rw [if_pos h3]
        · rw [if_neg h3, if_pos (by omega)]
    · obtain ⟨v, e1, e2⟩ := unb_l0 r p hp hl d (i + 1) (by omega)
      refine ⟨v, Ev.step (fun k => ?_) e1, Ev.step (fun k => ?_) e2⟩
      · simp only [impl_Mesh_unbalanced.l0]
        rw [if_pos (by omega), if_pos (by omega), if_pos (by omega), w1, if_pos (by omega), if_pos (by omega), hg, Option.bind_some, if_neg (fun h4 => hc (hgi.1 h4))]
      · simp only [spec_l05First.l0]
        rw [w1, if_pos (by omega), if_pos (by omega), if_pos (by omega), if_pos (by omega), w2, if_neg (by omega), if_neg (by omega)]
theorem balanced_same (r : Int) (p : List S80) (hp : p.length ≤ 1048576) : ∃ b : Bool, Ev (fun k => impl_IsBalanced.f k r p) b ∧ Ev (fun k => spec_IsBalanced.f k r p) b ∧ (b = true → meshOkB r p = true) := by
  have e1 := impl_mesh_ev r p hp
  have e2 := spec_mesh_ev r p hp
  unfold impl_IsBalanced.f spec_IsBalanced.f
  cases hm : meshOkB r p with
  | false =>
    rw [hm] at e1 e2
    exact ⟨false, Ev.bind e1 (Ev.congr (fun k => if_neg (by decide)) (Ev.now _)), Ev.bind e2 (Ev.congr (fun k => if_neg (by decide)) (Ev.now _)), fun h => by cases h⟩
  | true =>
    rw [hm] at e1 e2
    obtain ⟨v, f1, f2⟩ : ∃ v, Ev (fun k => impl_Mesh_unbalanced.f k r p) v ∧ Ev (fun k => spec_l05First.f k r p) v := by
      unfold impl_Mesh_unbalanced.f spec_l05First.f
      rw [w64 (x := (p.length : Int) - 1) (by omega) (by omega)]
      by_cases h0 : p.length = 0
      · exact ⟨-1, Ev.step (f := fun _ => some (-1)) (fun k => by simp only [impl_Mesh_unbalanced.l0]; rw [if_neg (by omega)]) (Ev.now _), Ev.step (f := fun _ => some (-1)) (fun k => by simp only [spec_l05First.l0]; rw [w64 (x := (0 : Int) + 1) (by omega) (by omega), if_neg (by omega)]) (Ev.now _)⟩
      · exact unb_l0 r p hp (fun j hj => mesh_level hm j hj) (p.length - 1) 0 (by omega)
    exact ⟨decide (v < 0), Ev.bind e1 (Ev.congr (fun k => if_pos rfl) (Ev.bind f1 (Ev.now _))), Ev.bind e2 (Ev.congr (fun k => if_pos rfl) (Ev.bind f2 (Ev.now _))), fun _ => rfl⟩
def massB (m t : List Int) : Nat → Nat → Bool
  | 0, _ => true
  | d + 1, i => decide (0 ≤ rd m (i : Int) ∧ rd m (i : Int) ≤ 10000000) && (decide (0 ≤ rd t (i : Int) ∧ rd t (i : Int) ≤ wrap64 (1000 * rd m (i : Int))) && massB m t d (i + 1))
theorem massB_at (m t : List Int) : ∀ d i, massB m t d i = true → ∀ j, i ≤ j → j < i + d → (0 ≤ rd m (j : Int) ∧ rd m (j : Int) ≤ 10000000) ∧ 0 ≤ rd t (j : Int) ∧ rd t (j : Int) ≤ 10000000000
  | 0, i, h, j, h1, h2 => by omega
  | d + 1, i, h, j, h1, h2 => by
    rw [massB, Bool.and_eq_true, Bool.and_eq_true, decide_eq_true_eq, decide_eq_true_eq] at h
    by_cases e : j = i
    · subst e
      have h3 := h.2.1
      rw [w64 (x := 1000 * rd m (j : Int)) (by omega) (by omega)] at h3
      exact ⟨h.1, by omega⟩
    · exact massB_at m t d (i + 1) h.2.2 j (by omega) (by omega)
def bedsB (b : List Int) : Nat → Nat → Bool
  | 0, _ => true
  | d + 1, i => decide (0 ≤ rd b (i : Int) ∧ rd b (i : Int) ≤ 1000000) && bedsB b d (i + 1)
theorem bedsB_any (b : List Int) : ∀ d i, i + d = b.length → bedsB b d i = !((b.drop i).any fun x => !U.inR x 0 1000000)
  | 0, i, h => by rw [List.drop_eq_nil_of_le (by omega)]; rfl
  | d + 1, i, h => by
    rw [bedsB, bedsB_any b d (i + 1) (by omega), List.drop_eq_getElem_cons (show i < b.length by omega), List.any_cons, rd_at b i (by omega), Bool.not_or, Bool.not_not]
    congr 1
    simp [U.inR]
theorem sum_l0 (l : List Int) (hl : l.length ≤ 1048576) (hy : ∀ j : Nat, j < l.length → 0 ≤ rd l (j : Int) ∧ rd l (j : Int) ≤ 10000000) : ∀ (d i : Nat) (s : Int), i + d = l.length → 0 ≤ s → s ≤ 10000000 * (i : Int) →
    ∃ s', Ev (fun k => impl_sum.l0 k s l (l.length : Int) (i : Int)) s' ∧ Ev (fun k => spec_l07Sum.l0 k l s (i : Int)) s'
  | 0, i, s, h, h0, h1 => ⟨s, Ev.step (f := fun _ => some s) (fun k => by simp only [impl_sum.l0]; rw [if_neg (by omega)]) (Ev.now _), Ev.step (f := fun _ => some s) (fun k => by simp only [spec_l07Sum.l0]; rw [if_neg (by omega)]) (Ev.now _)⟩
  | d + 1, i, s, h, h0, h1 => by
    have hz := hy i (by omega)
    obtain ⟨s', e1, e2⟩ := sum_l0 l hl hy d (i + 1) (s + rd l (i : Int)) (by omega) (by omega) (by omega)
    refine ⟨s', Ev.step (fun k => ?_) e1, Ev.step (fun k => ?_) e2⟩
    · simp only [impl_sum.l0]
      rw [if_pos (by omega), if_pos (by omega), if_pos (by omega), w64 (x := s + rd l (i : Int)) (by omega) (by omega), w64 (by omega) (by omega)]
      rfl
    · simp only [spec_l07Sum.l0]
      rw [if_pos (by omega), if_pos (by omega), w64 (x := s + rd l (i : Int)) (by omega) (by omega), w64 (by omega) (by omega)]
      rfl
section
variable (r : Int) (p : List S80) (m t b : List Int) (hm : m.length ≤ 1048576) (hb : b.length ≤ 1048576) (ht : t.length = m.length)
include hm ht
theorem implMass_l0 (v : Bool) (hv : massB m t m.length 0 = true → Ev (fun k => (impl_sum.f k m).bind fun s => some (decide (s ≤ 10000000))) v) : ∀ (d i : Nat), i + d = m.length → (massB m t d i = true → massB m t m.length 0 = true) →
    Ev (fun k => impl_State_hasCells.l0 k m (m.length : Int) (i : Int) r p m t b) (massB m t d i && v)
  | 0, i, h, hg => by
    rw [massB, Bool.true_and]
    exact Ev.step (fun k => by simp only [impl_State_hasCells.l0]; rw [if_neg (by omega)]) (hv (hg rfl))
  | d + 1, i, h, hg => by
    rw [massB]
    have hs : ∀ k, impl_State_hasCells.l0 (k + 1) m (m.length : Int) (i : Int) r p m t b = if decide (0 ≤ rd m (i : Int) ∧ rd m (i : Int) ≤ 10000000) = true then (if decide (0 ≤ rd t (i : Int) ∧ rd t (i : Int) ≤ wrap64 (1000 * rd m (i : Int))) = true then impl_State_hasCells.l0 k m (m.length : Int) ((i + 1 : Nat) : Int) r p m t b else some false) else some false := fun k => by
      simp only [impl_State_hasCells.l0]
      rw [if_pos (by omega), if_pos (by omega), if_pos (by omega), within_b, Option.bind_some, within_b, if_pos (show (i : Int) < (t.length : Int) by omega), Option.bind_some, w64 (x := (i : Int) + 1) (by omega) (by omega)]
      rfl
    cases c1 : decide (0 ≤ rd m (i : Int) ∧ rd m (i : Int) ≤ 10000000) with
    | false =>
      rw [Bool.false_and, Bool.false_and]
      exact Ev.step (f := fun _ => some false) (fun k => by rw [hs, c1, if_neg (by decide)]) (Ev.now _)
    | true =>
      cases c2 : decide (0 ≤ rd t (i : Int) ∧ rd t (i : Int) ≤ wrap64 (1000 * rd m (i : Int))) with
      | false =>
        rw [Bool.true_and, Bool.false_and, Bool.false_and]
        exact Ev.step (f := fun _ => some false) (fun k => by rw [hs, c1, if_pos rfl, c2, if_neg (by decide)]) (Ev.now _)
      | true =>
        rw [Bool.true_and, Bool.true_and]
        exact Ev.step (fun k => by rw [hs, c1, if_pos rfl, c2, if_pos rfl]) (implMass_l0 v hv d (i + 1) (by omega) (fun h2 => hg (by rw [massB, c1, c2, h2]; rfl)))
theorem specMass_l0 (v : Bool) (hv : massB m t m.length 0 = true → Ev (fun k => spec_StateOk.l1 k 0 r p m t b) v) : ∀ (d i : Nat), i + d = m.length → (massB m t d i = true → massB m t m.length 0 = true) →
    Ev (fun k => spec_StateOk.l0 k (i : Int) r p m t b) (massB m t d i && v)
  | 0, i, h, hg => by
    rw [massB, Bool.true_and]
    exact Ev.step (fun k => by simp only [spec_StateOk.l0]; rw [if_neg (by omega)]) (hv (hg rfl))
  | d + 1, i, h, hg => by
    rw [massB]
    have hs : ∀ k, spec_StateOk.l0 (k + 1) (i : Int) r p m t b = if decide (0 ≤ rd m (i : Int) ∧ rd m (i : Int) ≤ 10000000) = true then (if decide (0 ≤ rd t (i : Int) ∧ rd t (i : Int) ≤ wrap64 (1000 * rd m (i : Int))) = true then spec_StateOk.l0 k ((i + 1 : Nat) : Int) r p m t b else some false) else some false := fun k => by
      simp only [spec_StateOk.l0]
      rw [if_pos (by omega), if_pos (by omega), in_b, Option.bind_some, in_b, if_pos (show (i : Int) < (t.length : Int) by omega), Option.bind_some, w64 (x := (i : Int) + 1) (by omega) (by omega)]
      rfl
    cases c1 : decide (0 ≤ rd m (i : Int) ∧ rd m (i : Int) ≤ 10000000) with
    | false =>
      rw [Bool.false_and, Bool.false_and]
      exact Ev.step (f := fun _ => some false) (fun k => by rw [hs, c1, if_neg (by decide)]) (Ev.now _)
    | true =>
      cases c2 : decide (0 ≤ rd t (i : Int) ∧ rd t (i : Int) ≤ wrap64 (1000 * rd m (i : Int))) with
      | false =>
        rw [Bool.true_and, Bool.false_and, Bool.false_and]
        exact Ev.step (f := fun _ => some false) (fun k => by rw [hs, c1, if_pos rfl, c2, if_neg (by decide)]) (Ev.now _)
      | true =>
        rw [Bool.true_and, Bool.true_and]
        exact Ev.step (fun k => by rw [hs, c1, if_pos rfl, c2, if_pos rfl]) (specMass_l0 v hv d (i + 1) (by omega) (fun h2 => hg (by rw [massB, c1, c2, h2]; rfl)))
omit hm ht
include hb
theorem specBeds_l1 (v : Bool) (hv : Ev (fun k => (spec_l07Sum.f k m).bind fun s => some (decide (s ≤ 10000000))) v) : ∀ (d i : Nat), i + d = b.length → Ev (fun k => spec_StateOk.l1 k (i : Int) r p m t b) (bedsB b d i && v)
  | 0, i, h => by
    rw [bedsB, Bool.true_and]
    exact Ev.step (fun k => by simp only [spec_StateOk.l1]; rw [if_neg (by omega)]) hv
  | d + 1, i, h => by
    rw [bedsB]
    have hs : ∀ k, spec_StateOk.l1 (k + 1) (i : Int) r p m t b = if decide (0 ≤ rd b (i : Int) ∧ rd b (i : Int) ≤ 1000000) = true then spec_StateOk.l1 k ((i + 1 : Nat) : Int) r p m t b else some false := fun k => by
      simp only [spec_StateOk.l1]
      rw [if_pos (by omega), if_pos (by omega), in_b, Option.bind_some, w64 (x := (i : Int) + 1) (by omega) (by omega)]
      rfl
    cases c1 : decide (0 ≤ rd b (i : Int) ∧ rd b (i : Int) ≤ 1000000) with
    | false =>
      rw [Bool.false_and, Bool.false_and]
      exact Ev.step (f := fun _ => some false) (fun k => by rw [hs, c1, if_neg (by decide)]) (Ev.now _)
    | true =>
      rw [Bool.true_and]
      exact Ev.step (fun k => by rw [hs, c1, if_pos rfl]) (specBeds_l1 v hv d (i + 1) (by omega))
end
/-- the facts of a state that is let in -/
def StateFacts (r : Int) (p : List S80) (m t b : List Int) : Prop := meshOkB r p = true ∧ m.length = p.length ∧ t.length = p.length ∧ massB m t m.length 0 = true ∧ bedsB b b.length 0 = true
theorem state_same (r : Int) (p : List S80) (m t b : List Int) (hp : p.length ≤ 1048576) (hm : m.length ≤ 1048576) (hb : b.length ≤ 1048576) :
    ∃ v : Bool, Ev (fun k => impl_StateOk.f k r p m t b) v ∧ Ev (fun k => spec_StateOk.f k r p m t b) v ∧ (v = true → StateFacts r p m t b) := by
  obtain ⟨x, e1, e2, hx⟩ := balanced_same r p hp
  have badI : Ev (fun k => impl_State_hasCells.j0 k true r p m t b) false := Ev.step (f := fun _ => some false) (fun k => by simp only [impl_State_hasCells.j0]; rw [if_pos trivial]) (Ev.now _)
  have badS : Ev (fun k => spec_StateOk.j0 k true r p m t b) false := Ev.step (f := fun _ => some false) (fun k => by simp only [spec_StateOk.j0]; rw [if_pos trivial]) (Ev.now _)
  cases x with
  | false =>
    unfold impl_StateOk.f spec_StateOk.f
    exact ⟨false, Ev.bind e1 (Ev.congr (fun k => if_neg (by decide)) (Ev.now _)), Ev.bind e2 (Ev.congr (fun k => if_neg (by decide)) badS), fun h => by cases h⟩
  | true =>
    have hmo := hx rfl
    suffices h : ∃ v : Bool, Ev (fun k => impl_State_hasCells.f k r p m t b) v ∧ Ev (fun k => if (m.length : Int) = (p.length : Int) then (if (t.length : Int) = (m.length : Int) then (spec_StateOk.j0 k ((b.length : Int) != r) r p m t b) else (spec_StateOk.j0 k true r p m t b)) else (spec_StateOk.j0 k true r p m t b)) v ∧ (v = true → StateFacts r p m t b) by
      obtain ⟨v, f1, f2, f3⟩ := h
      unfold impl_StateOk.f spec_StateOk.f
      exact ⟨v, Ev.bind e1 (Ev.congr (fun k => if_pos rfl) (Ev.bind f1 (Ev.now _))), Ev.bind e2 (Ev.congr (fun k => if_pos rfl) f2), f3⟩
    unfold impl_State_hasCells.f
    by_cases h1 : (m.length : Int) = (p.length : Int)
    · by_cases h2 : (t.length : Int) = (m.length : Int)
      · by_cases h3 : (b.length : Int) = r
        · have hne : ((b.length : Int) != r) = false := by simp [h3]
          have ht' : t.length = m.length := by omega
          -- the sum, where the masses are in range
          obtain ⟨sv, hi, hs⟩ : ∃ sv : Bool, (massB m t m.length 0 = true → Ev (fun k => (impl_sum.f k m).bind fun s => some (decide (s ≤ 10000000))) sv) ∧ (massB m t m.length 0 = true → Ev (fun k => (spec_l07Sum.f k m).bind fun s => some (decide (s ≤ 10000000))) sv) := by
            by_cases hma : massB m t m.length 0 = true
            · obtain ⟨s', g1, g2⟩ := sum_l0 m hm (fun j hj => (massB_at m t m.length 0 hma j (by omega) (by omega)).1) m.length 0 0 (by omega) (by omega) (by omega)
              refine ⟨decide (s' ≤ 10000000), fun _ => Ev.bind (a := s') ?_ (Ev.now _), fun _ => Ev.bind (a := s') ?_ (Ev.now _)⟩
              · unfold impl_sum.f; exact g1
              · unfold spec_l07Sum.f; exact g2
            · exact ⟨false, fun h => absurd h hma, fun h => absurd h hma⟩
          have hany : (b.any fun x => !U.inR x 0 1000000) = !bedsB b b.length 0 := by rw [bedsB_any b b.length 0 (by omega), List.drop_zero, Bool.not_not]
          have gI : Ev (fun k => impl_State_hasCells.j0 k (!bedsB b b.length 0) r p m t b) (bedsB b b.length 0 && (massB m t m.length 0 && sv)) := by
            cases hbe : bedsB b b.length 0 with
            | false => exact badI
            | true =>
              rw [Bool.true_and]
              exact Ev.step (fun k => by simp only [impl_State_hasCells.j0]; rw [if_neg (by decide)]; rfl) (implMass_l0 r p m t b hm ht' sv hi m.length 0 (by omega) id)
          have gS : Ev (fun k => spec_StateOk.j0 k false r p m t b) (massB m t m.length 0 && (bedsB b b.length 0 && sv)) := by
            refine Ev.step (fun k => by simp only [spec_StateOk.j0]; rw [if_neg (by decide)]; rfl) (specMass_l0 r p m t b hm ht' (bedsB b b.length 0 && sv) (fun hma => ?_) m.length 0 (by omega) id)
            exact specBeds_l1 r p m t b hb sv (hs hma) b.length 0 (by omega)
          refine ⟨bedsB b b.length 0 && (massB m t m.length 0 && sv), ?_, ?_, fun h => ?_⟩
          · refine Ev.congr (f := fun k => impl_State_hasCells.j0 k (!bedsB b b.length 0) r p m t b) (fun k => ?_) gI
            rw [if_pos h1, if_pos (by omega), if_pos h3]
            unfold slices_ContainsFunc_int_int.f
            rw [hany, Option.bind_some]
          · have : (bedsB b b.length 0 && (massB m t m.length 0 && sv)) = (massB m t m.length 0 && (bedsB b b.length 0 && sv)) := by cases bedsB b b.length 0 <;> cases massB m t m.length 0 <;> rfl
            rw [this]
            exact Ev.congr (fun k => by rw [if_pos h1, if_pos h2, hne]) gS
          · rw [Bool.and_eq_true, Bool.and_eq_true] at h
            exact ⟨hmo, by omega, by omega, h.2.1, h.1⟩
        · have hne : ((b.length : Int) != r) = true := by simp [h3]
          exact ⟨false, Ev.congr (fun k => by rw [if_pos h1, if_pos (by omega), if_neg h3]) badI, Ev.congr (fun k => by rw [if_pos h1, if_pos h2, hne]) badS, fun h => by cases h⟩
      · exact ⟨false, Ev.congr (fun k => by rw [if_pos h1, if_neg (by omega)]) badI, Ev.congr (fun k => by rw [if_pos h1, if_neg h2]) badS, fun h => by cases h⟩
    · exact ⟨false, Ev.congr (fun k => if_neg h1) badI, Ev.congr (fun k => if_neg h1) badS, fun h => by cases h⟩
theorem dig_beds (r : Int) (p : List S80) (m t b : List Int) (hb : b.length ≤ 1048576) : ∀ (d i : Nat) (x : Int), i + d = b.length → ∃ v, Ev (fun k => impl_DigestOf.l1 k x b (b.length : Int) (i : Int)) v ∧ Ev (fun k => spec_DigestOf.l1 k x (i : Int) r p m t b) v
  | 0, i, x, h => ⟨x, Ev.step (f := fun _ => some x) (fun k => by simp only [impl_DigestOf.l1]; rw [if_neg (by omega)]) (Ev.now _), Ev.step (f := fun _ => some x) (fun k => by simp only [spec_DigestOf.l1]; rw [if_neg (by omega)]) (Ev.now _)⟩
  | d + 1, i, x, h => by
    obtain ⟨v, e1, e2⟩ := dig_beds r p m t b hb d (i + 1) (Int.tmod (wrap64 ((wrap64 (x * 31)) + (rd b (i : Int)))) 1000003) (by omega)
    refine ⟨v, Ev.step (fun k => ?_) e1, Ev.step (fun k => ?_) e2⟩
    · simp only [impl_DigestOf.l1]
      rw [if_pos (by omega), if_pos (by omega), if_pos (by omega), w64 (x := (i : Int) + 1) (by omega) (by omega)]
      rfl
    · simp only [spec_DigestOf.l1]
      rw [if_pos (by omega), if_pos (by omega), w64 (x := (i : Int) + 1) (by omega) (by omega)]
      rfl
theorem dig_cells (r : Int) (p : List S80) (m t b : List Int) (hb : b.length ≤ 1048576) (hp : p.length ≤ 1048576) (hm : m.length = p.length) (ht : t.length = p.length) : ∀ (d i : Nat) (x : Int), i + d = p.length → ∃ v, Ev (fun k => impl_DigestOf.l0 k x p (p.length : Int) (i : Int) r p m t b) v ∧ Ev (fun k => spec_DigestOf.l0 k x (i : Int) r p m t b) v
  | 0, i, x, h => by
    obtain ⟨v, e1, e2⟩ := dig_beds r p m t b hb b.length 0 x (by omega)
    exact ⟨v, Ev.step (fun k => by simp only [impl_DigestOf.l0]; rw [if_neg (by omega)]; rfl) e1, Ev.step (fun k => by simp only [spec_DigestOf.l0]; rw [if_neg (by omega)]; rfl) e2⟩
  | d + 1, i, x, h => by
    obtain ⟨v, e1, e2⟩ := dig_cells r p m t b hb hp hm ht d (i + 1) (Int.tmod (wrap64 ((wrap64 ((wrap64 ((wrap64 ((wrap64 ((wrap64 (x * 31)) + ((rd_T80 p (i : Int)).f1))) * 31)) + (rd m (i : Int)))) * 31)) + (rd t (i : Int)))) 1000003) (by omega)
    refine ⟨v, Ev.step (fun k => ?_) e1, Ev.step (fun k => ?_) e2⟩
    · simp only [impl_DigestOf.l0]
      rw [if_pos (by omega), if_pos (by omega), if_pos (by omega), if_pos (by omega), if_pos (by omega), w64 (x := (i : Int) + 1) (by omega) (by omega)]
      rfl
    · simp only [spec_DigestOf.l0]
      rw [if_pos (by omega), if_pos (by omega), if_pos (by omega), if_pos (by omega), w64 (x := (i : Int) + 1) (by omega) (by omega)]
      rfl
theorem same (r : Int) (p : List S80) (m t b : List Int) (hp : p.length ≤ 1048576) (hm : m.length ≤ 1048576) (hb : b.length ≤ 1048576) : ∃ v, Ev (fun k => spec_DigestOf.f k r p m t b) v ∧ Ev (fun k => impl_DigestOf.f k r p m t b) v := by
  obtain ⟨x, e1, e2, hx⟩ := state_same r p m t b hp hm hb
  unfold spec_DigestOf.f impl_DigestOf.f
  cases x with
  | false => exact ⟨-1, Ev.bind e2 (Ev.congr (fun k => if_neg (by decide)) (Ev.now _)), Ev.bind e1 (Ev.congr (fun k => if_neg (by decide)) (Ev.now _))⟩
  | true =>
    obtain ⟨_, h1, h2, _, _⟩ := hx rfl
    obtain ⟨v, f1, f2⟩ := dig_cells r p m t b hb hp h1 h2 p.length 0 1 (by omega)
    exact ⟨v, Ev.bind e2 (Ev.congr (fun k => if_pos rfl) f2), Ev.bind e1 (Ev.congr (fun k => if_pos rfl) f1)⟩
theorem law_ev (r : Int) (p : List S105) (m t b : List Int) (hp : p.length ≤ 9223372036854775807) (hm : m.length ≤ 9223372036854775807) (ht : t.length ≤ 9223372036854775807) (hb : b.length ≤ 9223372036854775807) :
    ∃ k, laws_FnExactDigestOf.f k r p m t b = some true := by
  refine Ev.rounds (g := fun k => laws_FnExactDigestOf.f k r p m t b) ?_
  unfold laws_FnExactDigestOf.f
  obtain ⟨v, ev, av, fv⟩ := szState_eq r p m t b 1048576 (by omega) (by omega) hp hm ht hb
  by_cases c1 : v < 0
  · exact Ev.congr (fun k => by rw [ev, Option.bind_some, if_pos c1]) (Ev.now _)
  obtain ⟨g1, g2, g3, g4⟩ := fv c1
  have h1 : (p.map cvId).length ≤ 1048576 := by rw [List.length_map]; exact g1
  have ta := toState_ev r p m t b g1 g2 g3 g4
  obtain ⟨x, e1, e2⟩ := same r (p.map cvId) m t b h1 g2 g4
  refine Ev.congr (fun k => by rw [ev, Option.bind_some, if_neg c1]) ?_
  refine Ev.bind ta (Ev.bind e1 (Ev.bind ta (Ev.bind e2 (Ev.congr (fun k => if_pos rfl) ?_))))
  exact Ev.bind ta (Ev.bind (eqState_ev r (p.map cvId) m t b h1 g2 g3 g4) (Ev.congr (fun k => if_pos rfl) (Ev.now _)))

end Go.Proofs.Ythggcdjdikifaaa.UDigestOf
