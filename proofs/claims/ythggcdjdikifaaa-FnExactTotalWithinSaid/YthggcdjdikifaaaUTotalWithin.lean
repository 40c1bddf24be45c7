/- TotalWithin of the program and of the reference answer the same at every frame. -/
import Derived.Test.YthggcdjdikifaaaRFnExactTotalWithinx8
import Derived.Test.YthggcdjdikifaaaPu
set_option linter.unusedVariables false
set_option linter.unusedSimpArgs false
namespace Go.Proofs.Ythggcdjdikifaaa.UTotalWithin
open Go.RowKit Go.Proofs.Ythggcdjdikifaaa.PFnExactTotalWithin Go.Proofs.YthggcdjdikifaaaW.PrintWords Go.Proofs.YthggcdjdikifaaaW.PrintLast Go.Proofs.YthggcdjdikifaaaW.PrintMore Go.Proofs.Ythggcdjdikifaaa.Pu

theorem in_b (n a b : Int) : spec_l01In.f n a b = some (decide (a ≤ n ∧ n ≤ b)) := by
  unfold spec_l01In.f
  by_cases h : n ≥ a
  · rw [if_pos h]; simp [show a ≤ n from h]
  · rw [if_neg h]; simp [show ¬ a ≤ n from h]
theorem within_b (n a b : Int) : impl_within.f n a b = some (decide (a ≤ n ∧ n ≤ b)) := by
  unfold impl_within.f
  by_cases h : n ≥ a
  · rw [if_pos h]; simp [show a ≤ n from h]
  · rw [if_neg h]; simp [show ¬ a ≤ n from h]

theorem level_facts (b : Int) (h : 0 ≤ b ∧ b ≤ 4) : IntKind.u64.wrap b = b ∧ 1 ≤ shl .i64 1 b ∧ shl .i64 1 b ≤ 16 ∧ 1 ≤ shr .i64 16 b ∧ shr .i64 16 b ≤ 16 ∧ shl .i64 1 b * shr .i64 16 b = 16 := by
  have : b = 0 ∨ b = 1 ∨ b = 2 ∨ b = 3 ∨ b = 4 := by omega
  rcases this with rfl | rfl | rfl | rfl | rfl <;> decide
def idB (a b c : Int) : Bool := decide (0 ≤ a ∧ a ≤ 7) && (decide (0 ≤ b ∧ b ≤ 4) && decide (0 ≤ c ∧ c < shl .i64 1 b))
theorem idB_iff {a b c : Int} : idB a b c = true ↔ (0 ≤ a ∧ a ≤ 7) ∧ (0 ≤ b ∧ b ≤ 4) ∧ 0 ≤ c ∧ c < shl .i64 1 b := by simp [idB]
theorem impl_idOk (a b c : Int) : impl_IdOk.f a b c = some (idB a b c) := by
  unfold impl_IdOk.f impl_isLevel.f idB
  simp only [within_b, Option.bind_some]
  by_cases h1 : 0 ≤ a ∧ a ≤ 7
  · rw [decide_eq_true h1, if_pos rfl, Bool.true_and]
    by_cases h2 : 0 ≤ b ∧ b ≤ 4
    · obtain ⟨_, f2, f3, _⟩ := level_facts b h2
      rw [decide_eq_true h2, if_pos rfl, if_pos h2.1, Bool.true_and, w64 (by omega) (by omega)]
      congr 1
      exact decide_eq_decide.2 (by omega)
    · rw [decide_eq_false h2, if_neg (by decide), Bool.false_and]
  · rw [decide_eq_false h1, if_neg (by decide), Bool.false_and]
theorem spec_idOk (a b c : Int) : spec_IdOk.f a b c = some (idB a b c) := by
  unfold spec_IdOk.f idB
  simp only [in_b, Option.bind_some]
  by_cases h1 : 0 ≤ a ∧ a ≤ 7
  · rw [decide_eq_true h1, if_pos rfl, Bool.true_and]
    by_cases h2 : 0 ≤ b ∧ b ≤ 4
    · obtain ⟨f1, f2, f3, _⟩ := level_facts b h2
      rw [decide_eq_true h2, if_pos rfl, Bool.true_and, f1]
      by_cases h3 : c ≥ 0
      · rw [if_pos h3, if_pos h2.1]
        congr 1
        exact decide_eq_decide.2 (by omega)
      · rw [if_neg h3, decide_eq_false (by omega)]
    · rw [decide_eq_false h2, if_neg (by decide), Bool.false_and]
  · rw [decide_eq_false h1, if_neg (by decide), Bool.false_and]
def widV (b : Int) : Int := if 0 ≤ b ∧ b ≤ 4 then shr .i64 16 b else 0
theorem impl_width (b : Int) : impl_WidthOf.f b = some (widV b) := by
  unfold impl_WidthOf.f impl_isLevel.f widV
  simp only [within_b, Option.bind_some]
  by_cases h2 : 0 ≤ b ∧ b ≤ 4
  · rw [decide_eq_true h2, if_pos rfl, if_pos h2.1, if_pos h2]
  · rw [decide_eq_false h2, if_neg (by decide), if_neg h2]
theorem spec_width (b : Int) : spec_WidthOf.f b = some (widV b) := by
  unfold spec_WidthOf.f widV
  simp only [in_b, Option.bind_some]
  by_cases h2 : 0 ≤ b ∧ b ≤ 4
  · rw [decide_eq_true h2, if_pos rfl, (level_facts b h2).1, if_pos h2.1, if_pos h2]
  · rw [decide_eq_false h2, if_neg (by decide), if_neg h2]
def startV (a b c : Int) : Int := if idB a b c = true then wrap64 (wrap64 (a * 16) + wrap64 (c * widV b)) else -1
theorem impl_start (a b c : Int) : impl_StartOf.f a b c = some (startV a b c) := by
  unfold impl_StartOf.f startV
  rw [impl_idOk, Option.bind_some, impl_width]
  split <;> rfl
theorem spec_start (a b c : Int) : spec_StartOf.f a b c = some (startV a b c) := by
  unfold spec_StartOf.f startV
  rw [spec_idOk, Option.bind_some, spec_width]
  split <;> rfl
def endV (a b c : Int) : Int := wrap64 (startV a b c + widV b)
theorem impl_end (a b c : Int) : impl_endOf.f a b c = some (endV a b c) := by
  unfold impl_endOf.f endV
  rw [impl_start, impl_width]
  rfl
theorem spec_end (a b c : Int) : spec_l04End.f a b c = some (endV a b c) := by
  unfold spec_l04End.f endV
  rw [spec_start, spec_width]
  rfl
/-- the leaves from i on continue at position x -/
def meshB (r : Int) (p : List S80) : Nat → Nat → Int → Bool
  | 0, _, x => decide (1 ≤ r ∧ r ≤ 8) && (x == wrap64 (r * 16))
  | d + 1, i, x => idB (rd_T80 p (i : Int)).f0 (rd_T80 p (i : Int)).f1 (rd_T80 p (i : Int)).f2 && (decide (startV (rd_T80 p (i : Int)).f0 (rd_T80 p (i : Int)).f1 (rd_T80 p (i : Int)).f2 = x) && meshB r p d (i + 1) (endV (rd_T80 p (i : Int)).f0 (rd_T80 p (i : Int)).f1 (rd_T80 p (i : Int)).f2))
theorem impl_mesh_l0 (r : Int) (p : List S80) (hp : p.length ≤ 1048576) : ∀ (d i : Nat) (x : Int), i + d = p.length → Ev (fun k => impl_MeshOk.l0 k x p (p.length : Int) (i : Int) r p) (meshB r p d i x)
  | 0, i, x, h => by
    rw [meshB]
    refine Ev.step (f := fun _ => if decide (1 ≤ r ∧ r ≤ 8) = true then some (x == wrap64 (r * 16)) else some false) (fun k => by simp only [impl_MeshOk.l0]; rw [if_neg (by omega), within_b, Option.bind_some]) ?_
    cases decide (1 ≤ r ∧ r ≤ 8)
    · exact Ev.now _
    · exact Ev.now _
  | d + 1, i, x, h => by
    rw [meshB]
    have hs : ∀ k, impl_MeshOk.l0 (k + 1) x p (p.length : Int) (i : Int) r p = if idB (rd_T80 p (i : Int)).f0 (rd_T80 p (i : Int)).f1 (rd_T80 p (i : Int)).f2 = true then (if startV (rd_T80 p (i : Int)).f0 (rd_T80 p (i : Int)).f1 (rd_T80 p (i : Int)).f2 = x then impl_MeshOk.l0 k (endV (rd_T80 p (i : Int)).f0 (rd_T80 p (i : Int)).f1 (rd_T80 p (i : Int)).f2) p (p.length : Int) ((i + 1 : Nat) : Int) r p else some false) else some false := fun k => by
      simp only [impl_MeshOk.l0]
      rw [if_pos (by omega), if_pos (by omega), if_pos (by omega), impl_idOk, impl_start, impl_end, w64 (by omega) (by omega)]
      rfl
    by_cases h1 : idB (rd_T80 p (i : Int)).f0 (rd_T80 p (i : Int)).f1 (rd_T80 p (i : Int)).f2 = true
    · by_cases h2 : startV (rd_T80 p (i : Int)).f0 (rd_T80 p (i : Int)).f1 (rd_T80 p (i : Int)).f2 = x
      · rw [h1, decide_eq_true h2, Bool.true_and, Bool.true_and]
        exact Ev.step (fun k => by rw [hs, if_pos h1, if_pos h2]) (impl_mesh_l0 r p hp d (i + 1) _ (by omega))
      · rw [h1, decide_eq_false h2, Bool.true_and, Bool.false_and]
        exact Ev.step (f := fun _ => some false) (fun k => by rw [hs, if_pos h1, if_neg h2]) (Ev.now _)
    · rw [Bool.not_eq_true] at h1
      rw [h1, Bool.false_and]
      exact Ev.step (f := fun _ => some false) (fun k => by rw [hs, h1, if_neg (by decide)]) (Ev.now _)
theorem spec_mesh_l0 (r : Int) (p : List S80) (hp : p.length ≤ 1048576) : ∀ (d i : Nat) (x : Int), i + d = p.length → Ev (fun k => spec_MeshOk.l0 k x (i : Int) r p) (meshB r p d i x)
  | 0, i, x, h => by
    rw [meshB]
    refine Ev.step (f := fun _ => if decide (1 ≤ r ∧ r ≤ 8) = true then some (x == wrap64 (r * 16)) else some false) (fun k => by simp only [spec_MeshOk.l0]; rw [if_neg (by omega), in_b, Option.bind_some]) ?_
    cases decide (1 ≤ r ∧ r ≤ 8)
    · exact Ev.now _
    · exact Ev.now _
  | d + 1, i, x, h => by
    rw [meshB]
    have hs : ∀ k, spec_MeshOk.l0 (k + 1) x (i : Int) r p = if idB (rd_T80 p (i : Int)).f0 (rd_T80 p (i : Int)).f1 (rd_T80 p (i : Int)).f2 = true then (if startV (rd_T80 p (i : Int)).f0 (rd_T80 p (i : Int)).f1 (rd_T80 p (i : Int)).f2 = x then spec_MeshOk.l0 k (endV (rd_T80 p (i : Int)).f0 (rd_T80 p (i : Int)).f1 (rd_T80 p (i : Int)).f2) ((i + 1 : Nat) : Int) r p else some false) else some false := fun k => by
      simp only [spec_MeshOk.l0]
      rw [if_pos (by omega), if_pos (by omega), spec_idOk, spec_start, spec_end, w64 (by omega) (by omega)]
      rfl
    by_cases h1 : idB (rd_T80 p (i : Int)).f0 (rd_T80 p (i : Int)).f1 (rd_T80 p (i : Int)).f2 = true
    · by_cases h2 : startV (rd_T80 p (i : Int)).f0 (rd_T80 p (i : Int)).f1 (rd_T80 p (i : Int)).f2 = x
      · rw [h1, decide_eq_true h2, Bool.true_and, Bool.true_and]
        exact Ev.step (fun k => by rw [hs, if_pos h1, if_pos h2]) (spec_mesh_l0 r p hp d (i + 1) _ (by omega))
      · rw [h1, decide_eq_false h2, Bool.true_and, Bool.false_and]
        exact Ev.step (f := fun _ => some false) (fun k => by rw [hs, if_pos h1, if_neg h2]) (Ev.now _)
    · rw [Bool.not_eq_true] at h1
      rw [h1, Bool.false_and]
      exact Ev.step (f := fun _ => some false) (fun k => by rw [hs, h1, if_neg (by decide)]) (Ev.now _)
def meshOkB (r : Int) (p : List S80) : Bool := meshB r p p.length 0 0
theorem impl_mesh_ev (r : Int) (p : List S80) (hp : p.length ≤ 1048576) : Ev (fun k => impl_MeshOk.f k r p) (meshOkB r p) := by
  unfold impl_MeshOk.f
  exact impl_mesh_l0 r p hp p.length 0 0 (by omega)
theorem spec_mesh_ev (r : Int) (p : List S80) (hp : p.length ≤ 1048576) : Ev (fun k => spec_MeshOk.f k r p) (meshOkB r p) := by
  unfold spec_MeshOk.f
  exact spec_mesh_l0 r p hp p.length 0 0 (by omega)
theorem meshB_ids (r : Int) (p : List S80) : ∀ (d i : Nat) (x : Int), meshB r p d i x = true → ∀ j, i ≤ j → j < i + d → idB (rd_T80 p (j : Int)).f0 (rd_T80 p (j : Int)).f1 (rd_T80 p (j : Int)).f2 = true
  | 0, i, x, h, j, h1, h2 => by omega
  | d + 1, i, x, h, j, h1, h2 => by
    rw [meshB, Bool.and_eq_true, Bool.and_eq_true] at h
    by_cases e : j = i
    · rw [e]; exact h.1
    · exact meshB_ids r p d (i + 1) _ h.2.2 j (by omega) (by omega)
theorem mesh_level {r : Int} {p : List S80} (h : meshOkB r p = true) (j : Nat) (hj : j < p.length) : 0 ≤ (rd_T80 p (j : Int)).f1 ∧ (rd_T80 p (j : Int)).f1 ≤ 4 := (idB_iff.1 (meshB_ids r p p.length 0 0 h j (by omega) (by omega))).2.1

def cvId (x : S105) : S80 := ⟨x.f0, x.f1, x.f2⟩
theorem toIdS_ev (l : List S105) (hn : l.length ≤ 1048576) : Ev (fun k => laws_toIdS.f k l) (l.map cvId) := by
  have h := copy_ev (fun k x3 i => laws_toIdS.l0 k l x3 i) l cvId
    (fun x3 hx => Ev.step (f := fun _ => some x3) (fun k => by simp only [laws_toIdS.l0]; rw [if_neg (by omega)]) (Ev.now _))
    (fun i x3 r h hx e => Ev.step (fun k => by
      simp only [laws_toIdS.l0]
      rw [if_pos (by omega), if_pos (by omega)]
      simp only [laws_toId.f, Option.bind_some]
      rw [if_pos (by omega), w64 (by omega) (by omega), show rd_T105 l (i : Int) = l[i] from getD_at l _ i h]
      rfl) e) (List.replicate l.length z80) (by simp)
  refine Ev.congr (fun k => ?_) h
  unfold laws_toIdS.f
  rw [if_pos (by omega), if_pos (by omega)]
  rfl
theorem eqIdS_ev (a : List S80) (hn : a.length ≤ 1048576) : Ev (fun k => laws_eqIdS.f k a a) true := by
  have h := loop_ev (fun k i => laws_eqIdS.l0 k a a i) a.length true
    (Ev.step (f := fun _ => some true) (fun k => by simp only [laws_eqIdS.l0]; rw [if_neg (by omega)]) (Ev.now _))
    (fun i hi e => Ev.step (fun k => by
      simp only [laws_eqIdS.l0]
      rw [if_pos (by omega), if_pos (by omega), if_pos (by omega)]
      simp only [laws_eqId.f, if_true, Option.bind_some]
      rw [w64 (by omega) (by omega)]
      rfl) e) a.length 0 (by omega)
  refine Ev.congr (fun k => ?_) h
  unfold laws_eqIdS.f
  rw [if_pos rfl]
  rfl

theorem toMesh_ev (r : Int) (p : List S105) (hp : p.length ≤ 1048576) : Ev (fun k => laws_toMesh.f k r p) (r, p.map cvId) := by
  unfold laws_toMesh.f
  exact Ev.bind (toIdS_ev p hp) (Ev.now _)
theorem eqMesh_ev (r : Int) (p : List S80) (hp : p.length ≤ 1048576) : Ev (fun k => laws_eqMesh.f k r p r p) true := by
  unfold laws_eqMesh.f
  exact Ev.congr (fun k => if_pos rfl) (Ev.bind (eqIdS_ev p hp) (Ev.congr (fun k => if_pos rfl) (Ev.now _)))

theorem szMesh_eq (r : Int) (p : List S105) (s : Int) (hs : 0 ≤ s) (hs2 : s ≤ 1048576) (hp : p.length ≤ 9223372036854775807) : ∃ t, laws_szMesh.f r p s = some t ∧ t ≤ 1048576 ∧ (¬ t < 0 → p.length ≤ 1048576) := by
  unfold laws_szMesh.f laws_szIdS.f
  rw [w64 (x := s - (p.length : Int)) (by omega) (by omega)]
  by_cases h1 : s - (p.length : Int) < 0
  · rw [if_pos h1]
    exact ⟨-1, rfl, by omega, by omega⟩
  · rw [if_neg h1]
    simp only [Option.bind_some]
    rw [if_neg h1]
    exact ⟨_, rfl, by omega, by omega⟩

theorem toIntS_ev (l : List Int) (hn : l.length ≤ 1048576) : Ev (fun k => laws_toIntS.f k l) l := by
  have h := copy_ev (fun k x3 i => laws_toIntS.l0 k l x3 i) l id
    (fun x3 hx => Ev.step (f := fun _ => some x3) (fun k => by simp only [laws_toIntS.l0]; rw [if_neg (by omega)]) (Ev.now _))
    (fun i x3 r h hx e => Ev.step (fun k => by
      simp only [laws_toIntS.l0]
      rw [if_pos (by omega), if_pos (by omega), if_pos (by omega), w64 (by omega) (by omega), rd_at l i h]
      rfl) e) (List.replicate l.length 0) (by simp)
  rw [List.map_id] at h
  refine Ev.congr (fun k => ?_) h
  unfold laws_toIntS.f
  rw [if_pos (by omega), if_pos (by omega)]
  rfl

theorem eqIntS_ev (a : List Int) (hn : a.length ≤ 1048576) : Ev (fun k => laws_eqIntS.f k a a) true := by
  have h := loop_ev (fun k i => laws_eqIntS.l0 k a a i) a.length true
    (Ev.step (f := fun _ => some true) (fun k => by simp only [laws_eqIntS.l0]; rw [if_neg (by omega)]) (Ev.now _))
    (fun i hi e => Ev.step (fun k => by
      simp only [laws_eqIntS.l0]
      rw [if_pos (by omega), if_pos (by omega), if_pos (by omega), if_pos (show True from trivial), w64 (by omega) (by omega)]
      rfl) e) a.length 0 (by omega)
  refine Ev.congr (fun k => ?_) h
  unfold laws_eqIntS.f
  rw [if_pos rfl]
  rfl

/-- a list of at most 1000 numbers from 0 to 10^13 -/
def Fine (l : List Int) : Prop := l.length ≤ 1000 ∧ ∀ y ∈ l, 0 ≤ y ∧ y ≤ 10000000000000
theorem Fine.nil : Fine [] := ⟨by simp, by simp⟩
theorem Fine.snoc {l : List Int} {y : Int} (h : Fine l) (hl : l.length + 1 ≤ 1000) (hy : 0 ≤ y ∧ y ≤ 10000000000000) : Fine (l ++ [y]) := ⟨by simp; omega, fun z hz => by
  rw [List.mem_append, List.mem_singleton] at hz
  rcases hz with hz | rfl
  · exact h.2 z hz
  · exact hy⟩
theorem mul_range {q x : Int} (hq : 1 ≤ q ∧ q ≤ 1000000) (hx : 0 ≤ x ∧ x ≤ 10000000) : 0 ≤ q * x ∧ q * x ≤ 10000000000000 := by
  have h1 : 0 ≤ q * x := Int.mul_nonneg (by omega) hx.1
  have h2 : q * x ≤ 1000000 * 10000000 := Int.mul_le_mul hq.2 hx.2 (by omega) (by omega)
  omega
def Both (code : List Int) (q : Int) (f g : Nat → Option (List Int × Bool)) : Prop := ∃ r : List Int × Bool, Fine r.1 ∧ Ev f r ∧ Ev g r
theorem dec_inner (code : List Int) (q : Int) (hc : code.length ≤ 2000) (hq : 1 ≤ q ∧ q ≤ 1000000) (i : Nat) (hi : i + 1 < code.length) (n : Nat) (hn : rd code (i : Int) = (n : Int)) (hn2 : n ≤ 1000) (s : Int) (hs : rd code ((i + 1 : Nat) : Int) = s) (hs2 : -10000000 ≤ s ∧ s ≤ 10000000)
    (next : ∀ (x : Int) (out : List Int), Fine out → 0 ≤ x → x ≤ 10000000 → Both code q (fun k => spec_DecompressList.l0 k code q [] out x ((i + 2 : Nat) : Int)) (fun k => impl_DecompressList.l0 k code q out x ((i + 2 : Nat) : Int))) :
    ∀ (m j : Nat) (x : Int) (out : List Int), j + m = n → out.length + m ≤ 1000 → Fine out → 0 ≤ x → x ≤ 10000000 →
      Both code q (fun k => spec_DecompressList.l1 k code q [] out x (i : Int) (j : Int)) (fun k => impl_DecompressList.l1 k code q out x (i : Int) s (n : Int) (j : Int))
  | 0, j, x, out, hj, hl, hf, h0, h1 => by
    obtain ⟨r, hr, e1, e2⟩ := next x out hf h0 h1
    refine ⟨r, hr, Ev.step (fun k => ?_) e1, Ev.step (fun k => ?_) e2⟩
    · simp only [spec_DecompressList.l1]
      rw [if_pos (by omega), if_pos (by omega), hn, if_neg (by omega), w64 (by omega) (by omega)]
      rfl
    · simp only [impl_DecompressList.l1]
      rw [if_neg (by omega), w64 (by omega) (by omega)]
      rfl
  | m + 1, j, x, out, hj, hl, hf, h0, h1 => by
    have hw1 : wrap64 (x + s) = x + s := w64 (by omega) (by omega)
    by_cases hx : 0 ≤ x + s ∧ x + s ≤ 10000000
    · have hm := mul_range hq hx
      obtain ⟨r, hr, e1, e2⟩ := dec_inner code q hc hq i hi n hn hn2 s hs hs2 next m (j + 1) (x + s) (out ++ [q * (x + s)]) (by omega) (by simp; omega) (hf.snoc (by omega) hm) hx.1 hx.2
      refine ⟨r, hr, Ev.step (fun k => ?_) e1, Ev.step (fun k => ?_) e2⟩
      · simp only [spec_DecompressList.l1]
        rw [if_pos (by omega), if_pos (by omega), hn, if_pos (by omega), w64 (x := (i : Int) + 1) (by omega) (by omega), if_pos (by omega), if_pos (by omega), show ((i : Int) + 1) = ((i + 1 : Nat) : Int) by omega, hs, in_b, decide_eq_true hs2, hw1, in_b, decide_eq_true hx]
        simp only [Option.bind_some, if_true]
        rw [if_pos (by omega), Int.mul_comm, w64 (x := q * (x + s)) (by omega) (by omega), w64 (by omega) (by omega)]
        rfl
      · simp only [impl_DecompressList.l1, impl_isMass.f]
        rw [if_pos (by omega), hw1, within_b, decide_eq_true hx]
        simp only [Option.bind_some, if_true]
        rw [if_pos (by omega), w64 (x := q * (x + s)) (by omega) (by omega), w64 (by omega) (by omega)]
        rfl
    · refine ⟨([], false), Fine.nil, Ev.step (f := fun _ => some ([], false)) (fun k => ?_) (Ev.now _), Ev.step (f := fun _ => some ([], false)) (fun k => ?_) (Ev.now _)⟩
      · simp only [spec_DecompressList.l1]
        rw [if_pos (by omega), if_pos (by omega), hn, if_pos (by omega), w64 (x := (i : Int) + 1) (by omega) (by omega), if_pos (by omega), if_pos (by omega), show ((i : Int) + 1) = ((i + 1 : Nat) : Int) by omega, hs, in_b, decide_eq_true hs2, hw1, in_b, decide_eq_false hx]
        rfl
      · simp only [impl_DecompressList.l1, impl_isMass.f]
        rw [if_pos (by omega), hw1, within_b, decide_eq_false hx]
        rfl
theorem dec_outer (code : List Int) (q : Int) (hc : code.length ≤ 2000) (hq : 1 ≤ q ∧ q ≤ 1000000) : ∀ (d i : Nat) (x : Int) (out : List Int), i + 2 * d = code.length → Fine out → 0 ≤ x → x ≤ 10000000 →
    Both code q (fun k => spec_DecompressList.l0 k code q [] out x (i : Int)) (fun k => impl_DecompressList.l0 k code q out x (i : Int))
  | 0, i, x, out, hi, hf, h0, h1 => ⟨(out, true), hf, Ev.step (f := fun _ => some (out, true)) (fun k => by simp only [spec_DecompressList.l0]; rw [if_neg (by omega)]) (Ev.now _), Ev.step (f := fun _ => some (out, true)) (fun k => by simp only [impl_DecompressList.l0]; rw [if_neg (by omega)]) (Ev.now _)⟩
  | d + 1, i, x, out, hi, hf, h0, h1 => by
    have hol := hf.1
    have w1 : wrap64 ((i : Int) + 1) = ((i + 1 : Nat) : Int) := by rw [w64 (by omega) (by omega)]; omega
    have w2 : wrap64 (1000 - (out.length : Int)) = 1000 - (out.length : Int) := w64 (by omega) (by omega)
    by_cases hn : 1 ≤ rd code (i : Int) ∧ rd code (i : Int) ≤ 1000 - (out.length : Int)
    · -- the steps that differ go on
      have go : ∀ b : Bool, (b = true → i > 0) → Both code q
          (fun k => spec_DecompressList.j2 k code q [] out x (i : Int) b)
          (fun k => if b = true then impl_DecompressList.j2 k code q out x (i : Int) (rd code (i : Int)) (rd code ((i + 1 : Nat) : Int)) true else impl_DecompressList.j2 k code q out x (i : Int) (rd code (i : Int)) (rd code ((i + 1 : Nat) : Int)) (!decide (-10000000 ≤ rd code ((i + 1 : Nat) : Int) ∧ rd code ((i + 1 : Nat) : Int) ≤ 10000000))) := fun b _ => by
        cases b with
        | true =>
          refine ⟨([], false), Fine.nil, Ev.step (f := fun _ => some ([], false)) (fun k => by simp only [spec_DecompressList.j2]; rw [if_pos trivial]) (Ev.now _), Ev.step (f := fun _ => some ([], false)) (fun k => by rw [if_pos rfl]; simp only [impl_DecompressList.j2]; rw [if_pos trivial]) (Ev.now _)⟩
        | false =>
          obtain ⟨n, hnn⟩ : ∃ n : Nat, rd code (i : Int) = (n : Int) := ⟨(rd code (i : Int)).toNat, by omega⟩
          by_cases hs : -10000000 ≤ rd code ((i + 1 : Nat) : Int) ∧ rd code ((i + 1 : Nat) : Int) ≤ 10000000
          · obtain ⟨r, hr, e1, e2⟩ := dec_inner code q hc hq i (by omega) n hnn (by omega) _ rfl hs (fun x' out' hf' a b => dec_outer code q hc hq d (i + 2) x' out' (by omega) hf' a b) n 0 x out (by omega) (by omega) hf h0 h1
            refine ⟨r, hr, Ev.step (fun k => ?_) e1, Ev.step (fun k => ?_) e2⟩
            · simp only [spec_DecompressList.j2]
              rw [if_neg (by decide)]
              rfl
            · rw [if_neg (by decide), decide_eq_true hs, hnn]
              simp only [impl_DecompressList.j2]
              rw [if_neg (by decide)]
              rfl
          · refine ⟨([], false), Fine.nil, Ev.step (f := fun k => spec_DecompressList.l1 k code q [] out x (i : Int) 0) (fun k => by simp only [spec_DecompressList.j2]; rw [if_neg (by decide)]) (Ev.step (f := fun _ => some ([], false)) (fun k => ?_) (Ev.now _)), Ev.step (f := fun _ => some ([], false)) (fun k => ?_) (Ev.now _)⟩
            · simp only [spec_DecompressList.l1]
              rw [if_pos (by omega), if_pos (by omega), if_pos (by omega), w1, if_pos (by omega), if_pos (by omega), in_b, decide_eq_false hs]
              rfl
            · rw [if_neg (by decide), decide_eq_false hs]
              simp only [impl_DecompressList.j2]
              rw [if_pos (by decide)]
      by_cases h0i : i > 0
      · obtain ⟨r, hr, e1, e2⟩ := go (rd code ((i + 1 : Nat) : Int) == rd code (wrap64 ((i : Int) - 1))) (fun _ => h0i)
        have w3 : wrap64 ((i : Int) - 1) = (i : Int) - 1 := w64 (by omega) (by omega)
        refine ⟨r, hr, Ev.step (fun k => ?_) e1, Ev.step (fun k => ?_) e2⟩
        · simp only [spec_DecompressList.l0]
          rw [if_pos (by omega), if_pos (by omega), w2, in_b, decide_eq_true hn]
          simp only [Option.bind_some, if_true]
          rw [if_pos (by omega), w1, if_pos (by omega), if_pos (by omega), w3, if_pos (by omega), if_pos (by omega)]
        · simp only [impl_DecompressList.l0]
          rw [if_pos (by omega), if_pos (by omega), w1, if_pos (by omega), if_pos (by omega), w2, within_b, decide_eq_true hn]
          simp only [Option.bind_some, if_true]
          rw [if_pos (by omega), w3, if_pos (by omega), if_pos (by omega), within_b]
          simp only [Option.bind_some, beq_iff_eq]
      · obtain rfl : i = 0 := by omega
        obtain ⟨r, hr, e1, e2⟩ := go false (fun h => by cases h)
        refine ⟨r, hr, Ev.step (fun k => ?_) e1, Ev.step (fun k => ?_) e2⟩
        · simp only [spec_DecompressList.l0]
          rw [if_pos (by omega), if_pos (by omega), w2, in_b, decide_eq_true hn]
          simp only [Option.bind_some, if_true]
          rw [if_neg (by omega)]
        · simp only [impl_DecompressList.l0]
          rw [if_pos (by omega), if_pos (by omega), w1, if_pos (by omega), if_pos (by omega), w2, within_b, decide_eq_true hn]
          simp only [Option.bind_some, if_true]
          rw [if_neg (by omega), within_b]
          simp only [Option.bind_some]
          rw [if_neg (by decide)]
    · refine ⟨([], false), Fine.nil, Ev.step (f := fun k => spec_DecompressList.j2 k code q [] out x (i : Int) true) (fun k => ?_) (Ev.step (f := fun _ => some ([], false)) (fun k => by simp only [spec_DecompressList.j2]; rw [if_pos trivial]) (Ev.now _)), Ev.step (f := fun k => impl_DecompressList.j2 k code q out x (i : Int) (rd code (i : Int)) (rd code ((i + 1 : Nat) : Int)) true) (fun k => ?_) (Ev.step (f := fun _ => some ([], false)) (fun k => by simp only [impl_DecompressList.j2]; rw [if_pos trivial]) (Ev.now _))⟩
      · simp only [spec_DecompressList.l0]
        rw [if_pos (by omega), if_pos (by omega), w2, in_b, decide_eq_false hn]
        rfl
      · simp only [impl_DecompressList.l0]
        rw [if_pos (by omega), if_pos (by omega), w1, if_pos (by omega), if_pos (by omega), w2, within_b, decide_eq_false hn]
        rfl
theorem dec_same (code : List Int) (q : Int) : Both code q (fun k => spec_DecompressList.f k code q) (fun k => impl_DecompressList.f k code q) := by
  have bad : ∀ b : Bool, b = true → Both code q (fun k => spec_DecompressList.j0 k code q [] [] b) (fun k => impl_DecompressList.j0 k code q b) := fun b hb => by
    subst hb
    exact ⟨([], false), Fine.nil, Ev.step (f := fun _ => some ([], false)) (fun k => by simp only [spec_DecompressList.j0]; rw [if_pos trivial]) (Ev.now _), Ev.step (f := fun _ => some ([], false)) (fun k => by simp only [impl_DecompressList.j0]; rw [if_pos trivial]) (Ev.now _)⟩
  have hS : ∀ k, spec_DecompressList.f k code q = if decide (1 ≤ q ∧ q ≤ 1000000) = true then (if ((code.length : Int) % 2) = 0 then spec_DecompressList.j0 k code q [] [] (decide ((code.length : Int) > 2000)) else spec_DecompressList.j0 k code q [] [] true) else spec_DecompressList.j0 k code q [] [] true := fun k => by
    unfold spec_DecompressList.f
    simp only [Option.bind_some]
    rw [in_b]
    rfl
  have hI : ∀ k, impl_DecompressList.f k code q = if decide (1 ≤ q ∧ q ≤ 1000000) = true then (if ((code.length : Int) % 2) = 0 then impl_DecompressList.j0 k code q (decide ((code.length : Int) > 2000)) else impl_DecompressList.j0 k code q true) else impl_DecompressList.j0 k code q true := fun k => by
    unfold impl_DecompressList.f impl_isQuantum.f
    rw [within_b]
    rfl
  by_cases hq : 1 ≤ q ∧ q ≤ 1000000
  · by_cases h2 : ((code.length : Int) % 2) = 0
    · by_cases hl : (code.length : Int) > 2000
      · obtain ⟨r, hr, e1, e2⟩ := bad _ (decide_eq_true hl)
        exact ⟨r, hr, Ev.congr (fun k => by rw [hS, decide_eq_true hq, if_pos rfl, if_pos h2]) e1, Ev.congr (fun k => by rw [hI, decide_eq_true hq, if_pos rfl, if_pos h2]) e2⟩
      · obtain ⟨r, hr, e1, e2⟩ := dec_outer code q (by omega) hq (code.length / 2) 0 0 [] (by omega) Fine.nil (by omega) (by omega)
        refine ⟨r, hr, Ev.congr (fun k => by rw [hS, decide_eq_true hq, if_pos rfl, if_pos h2, decide_eq_false hl]) (Ev.step (fun k => ?_) e1), Ev.congr (fun k => by rw [hI, decide_eq_true hq, if_pos rfl, if_pos h2, decide_eq_false hl]) (Ev.step (fun k => ?_) e2)⟩
        · simp only [spec_DecompressList.j0]
          rw [if_neg (by decide)]
          rfl
        · simp only [impl_DecompressList.j0]
          rw [if_neg (by decide)]
          rfl
    · obtain ⟨r, hr, e1, e2⟩ := bad true rfl
      exact ⟨r, hr, Ev.congr (fun k => by rw [hS, decide_eq_true hq, if_pos rfl, if_neg h2]) e1, Ev.congr (fun k => by rw [hI, decide_eq_true hq, if_pos rfl, if_neg h2]) e2⟩
  · obtain ⟨r, hr, e1, e2⟩ := bad true rfl
    exact ⟨r, hr, Ev.congr (fun k => by rw [hS, decide_eq_false hq, if_neg (by decide)]) e1, Ev.congr (fun k => by rw [hI, decide_eq_false hq, if_neg (by decide)]) e2⟩

/-- the fields of a frame: step, roots, leaves, total, tracer, quantum, code -/
theorem read_same (a r : Int) (p : List S80) (b c q : Int) (code : List Int) (hp : p.length ≤ 1048576) : Both code q (fun k => spec_ReadFrame.f k a r p b c q code) (fun k => impl_ReadFrame.f k a r p b c q code) := by
  obtain ⟨⟨l, ok⟩, hf, e1, e2⟩ := dec_same code q
  have m1 := impl_mesh_ev r p hp
  have m2 := spec_mesh_ev r p hp
  have bad : Ev (fun k => some (([] : List Int), false)) ([], false) := Ev.now _
  unfold spec_ReadFrame.f impl_ReadFrame.f
  cases ok with
  | false => exact ⟨([], false), Fine.nil, Ev.bind e1 (Ev.congr (fun k => if_neg Bool.false_ne_true) bad), Ev.bind e2 (Ev.congr (fun k => if_neg Bool.false_ne_true) bad)⟩
  | true =>
    cases hm : meshOkB r p with
    | false =>
      rw [hm] at m1 m2
      exact ⟨([], false), Fine.nil, Ev.bind e1 (Ev.congr (fun k => if_pos rfl) (Ev.bind m2 (Ev.congr (fun k => if_neg (by decide)) bad))), Ev.bind e2 (Ev.congr (fun k => if_pos rfl) (Ev.bind m1 (Ev.congr (fun k => if_neg (by decide)) bad)))⟩
    | true =>
      rw [hm] at m1 m2
      by_cases hl : (l.length : Int) = (p.length : Int)
      · exact ⟨(l, true), hf, Ev.bind e1 (Ev.congr (fun k => if_pos rfl) (Ev.bind m2 (Ev.congr (fun k => if_pos rfl) (Ev.congr (fun k => if_pos hl) (Ev.now _))))), Ev.bind e2 (Ev.congr (fun k => if_pos rfl) (Ev.bind m1 (Ev.congr (fun k => if_pos rfl) (Ev.congr (fun k => if_pos hl) (Ev.now _)))))⟩
      · exact ⟨([], false), Fine.nil, Ev.bind e1 (Ev.congr (fun k => if_pos rfl) (Ev.bind m2 (Ev.congr (fun k => if_pos rfl) (Ev.congr (fun k => if_neg hl) bad)))), Ev.bind e2 (Ev.congr (fun k => if_pos rfl) (Ev.bind m1 (Ev.congr (fun k => if_pos rfl) (Ev.congr (fun k => if_neg hl) bad))))⟩
theorem toFrame_ev (a r : Int) (p : List S105) (b c q : Int) (code : List Int) (hp : p.length ≤ 1048576) (hc : code.length ≤ 1048576) : Ev (fun k => laws_toFrame.f k a r p b c q code) (a, r, p.map cvId, b, c, q, code) := by
  unfold laws_toFrame.f
  exact Ev.bind (toMesh_ev r p hp) (Ev.bind (toIntS_ev code hc) (Ev.now _))
theorem eqFrame_ev (a r : Int) (p : List S80) (b c q : Int) (code : List Int) (hp : p.length ≤ 1048576) (hc : code.length ≤ 1048576) : Ev (fun k => laws_eqFrame.f k a r p b c q code a r p b c q code) true := by
  unfold laws_eqFrame.f
  refine Ev.congr (fun k => if_pos rfl) (Ev.bind (eqMesh_ev r p hp) (Ev.congr (fun k => if_pos rfl) (Ev.congr (fun k => if_pos rfl) (Ev.congr (fun k => if_pos rfl) (Ev.congr (fun k => if_pos rfl) (Ev.bind (eqIntS_ev code hc) (Ev.congr (fun k => if_pos rfl) (Ev.now _))))))))
theorem szFrame_eq (a r : Int) (p : List S105) (b c q : Int) (code : List Int) (hp : p.length ≤ 9223372036854775807) (hc : code.length ≤ 9223372036854775807) : ∃ t, laws_szFrame.f a r p b c q code 1048576 = some t ∧ (¬ t < 0 → p.length ≤ 1048576 ∧ code.length ≤ 1048576) := by
  obtain ⟨t, ht, hb, hs⟩ := szMesh_eq r p 1048576 (by omega) (by omega) hp
  unfold laws_szFrame.f laws_szIntS.f
  rw [ht, Option.bind_some]
  by_cases h1 : t < 0
  · rw [if_pos h1]
    exact ⟨-1, rfl, by omega⟩
  · rw [if_neg h1, w64 (x := t - (code.length : Int)) (by omega) (by omega)]
    by_cases h2 : t - (code.length : Int) < 0
    · rw [if_pos h2]
      exact ⟨-1, rfl, by omega⟩
    · rw [if_neg h2, Option.bind_some, if_neg h2]
      exact ⟨_, rfl, fun _ => ⟨hs h1, by omega⟩⟩
theorem sum_same (l : List Int) (hf : Fine l) : ∀ (d i : Nat) (s : Int), i + d = l.length → 0 ≤ s → s ≤ 10000000000000 * (i : Int) →
    ∃ s', 0 ≤ s' ∧ s' ≤ 10000000000000000 ∧ Ev (fun k => impl_sum.l0 k s l (l.length : Int) (i : Int)) s' ∧ Ev (fun k => spec_l07Sum.l0 k l s (i : Int)) s'
  | 0, i, s, h, h0, h1 => by
    have hl := hf.1
    exact ⟨s, h0, by omega, Ev.step (f := fun _ => some s) (fun k => by simp only [impl_sum.l0]; rw [if_neg (by omega)]) (Ev.now _), Ev.step (f := fun _ => some s) (fun k => by simp only [spec_l07Sum.l0]; rw [if_neg (by omega)]) (Ev.now _)⟩
  | d + 1, i, s, h, h0, h1 => by
    have hl := hf.1
    have hy : 0 ≤ rd l (i : Int) ∧ rd l (i : Int) ≤ 10000000000000 := by
      rw [rd_at l i (by omega)]
      exact hf.2 _ (List.getElem_mem (by omega))
    obtain ⟨s', a, b, e1, e2⟩ := sum_same l hf d (i + 1) (s + rd l (i : Int)) (by omega) (by omega) (by omega)
    refine ⟨s', a, b, Ev.step (fun k => ?_) e1, Ev.step (fun k => ?_) e2⟩
    · simp only [impl_sum.l0]
      rw [if_pos (by omega), if_pos (by omega), if_pos (by omega), w64 (x := s + rd l (i : Int)) (by omega) (by omega), w64 (by omega) (by omega)]
      rfl
    · simp only [spec_l07Sum.l0]
      rw [if_pos (by omega), if_pos (by omega), w64 (x := s + rd l (i : Int)) (by omega) (by omega), w64 (by omega) (by omega)]
      rfl
theorem total_same (a r : Int) (p : List S80) (b c q : Int) (code : List Int) (hp : p.length ≤ 1048576) : ∃ v : Bool, Ev (fun k => spec_TotalWithin.f k a r p b c q code) v ∧ Ev (fun k => impl_TotalWithin.f k a r p b c q code) v := by
  obtain ⟨⟨l, ok⟩, hf, e1, e2⟩ := read_same a r p b c q code hp
  unfold spec_TotalWithin.f impl_TotalWithin.f
  have bad : ∀ x : Bool, x = true → Ev (fun k => spec_TotalWithin.j0 k l x a r p b c q code) false := fun x hx => by
    subst hx
    exact Ev.step (f := fun _ => some false) (fun k => by simp only [spec_TotalWithin.j0]; rw [if_pos trivial]) (Ev.now _)
  cases ok with
  | false => exact ⟨false, Ev.bind e1 (Ev.congr (fun k => if_neg Bool.false_ne_true) (bad true rfl)), Ev.bind e2 (Ev.congr (fun k => if_neg Bool.false_ne_true) (Ev.now _))⟩
  | true =>
    by_cases ht : -1000000000000000 ≤ b ∧ b ≤ 1000000000000000
    · obtain ⟨s, s0, s1, f1, f2⟩ := sum_same l hf l.length 0 0 (by omega) (by omega) (by omega)
      have hi : Ev (fun k => impl_sum.f k l) s := by unfold impl_sum.f; exact f1
      have hs : Ev (fun k => spec_l07Sum.f k l) s := by unfold spec_l07Sum.f; exact f2
      obtain ⟨g, hg1, hg2⟩ : ∃ g, impl_absolute.f (wrap64 (s - b)) = some g ∧ spec_l09Gap.f s b = some g := by
        unfold impl_absolute.f spec_l09Gap.f
        rw [w64 (x := s - b) (by omega) (by omega), w64 (x := -(s - b)) (by omega) (by omega), w64 (x := b - s) (by omega) (by omega)]
        refine ⟨_, rfl, ?_⟩
        unfold mx
        by_cases h : s > b
        · rw [if_pos h, if_neg (by omega)]
        · rw [if_neg h]
          congr 1
          split <;> omega
      refine ⟨decide (g ≤ (wrap64 (Int.tdiv (wrap64 ((l.length : Int) * q)) 2))), Ev.bind e1 (Ev.congr (fun k => if_pos rfl) ?_), Ev.bind e2 (Ev.congr (fun k => if_pos rfl) ?_)⟩
      rotate_left
      · refine Ev.congr (f := fun k => (impl_sum.f k l).bind fun t247 => ((impl_absolute.f (wrap64 (t247 - b))).bind fun t248 => (some (decide (t248 ≤ (wrap64 (Int.tdiv (wrap64 ((l.length : Int) * q)) 2))))))) (fun k => by rw [within_b, decide_eq_true ht]; rfl) (Ev.bind hi (Ev.congr (fun k => by rw [hg1, Option.bind_some]) (Ev.now _)))
      · refine Ev.congr (f := fun k => spec_TotalWithin.j0 k l false a r p b c q code) (fun k => by rw [in_b, decide_eq_true ht]; rfl) (Ev.step (f := fun k => (spec_l07Sum.f k l).bind fun t165 => ((spec_l09Gap.f t165 b).bind fun t166 => (some (decide (t166 ≤ (wrap64 (Int.tdiv (wrap64 ((l.length : Int) * q)) 2))))))) (fun k => by simp only [spec_TotalWithin.j0]; rw [if_neg (by decide)]) (Ev.bind hs (Ev.congr (fun k => by rw [hg2, Option.bind_some]) (Ev.now _))))
    · exact ⟨false, Ev.bind e1 (Ev.congr (fun k => if_pos rfl) (Ev.congr (f := fun k => spec_TotalWithin.j0 k l true a r p b c q code) (fun k => by rw [in_b, decide_eq_false ht]; rfl) (bad true rfl))), Ev.bind e2 (Ev.congr (fun k => if_pos rfl) (Ev.congr (f := fun _ => some false) (fun k => by rw [within_b, decide_eq_false ht]; rfl) (Ev.now _)))⟩
theorem law_ev (a r : Int) (p : List S105) (b c q : Int) (code : List Int) (hp : p.length ≤ 9223372036854775807) (hc : code.length ≤ 9223372036854775807) : ∃ k, laws_FnExactTotalWithin.f k a r p b c q code = some true := by
  obtain ⟨t, ht, hs⟩ := szFrame_eq a r p b c q code hp hc
  refine Ev.rounds (g := fun k => laws_FnExactTotalWithin.f k a r p b c q code) ?_
  unfold laws_FnExactTotalWithin.f
  by_cases h0 : t < 0
  · exact Ev.congr (fun k => by rw [ht, Option.bind_some, if_pos h0]) (Ev.now _)
  · obtain ⟨h1, h2⟩ := hs h0
    have h3 : (p.map cvId).length ≤ 1048576 := by rw [List.length_map]; exact h1
    obtain ⟨v, e1, e2⟩ := total_same a r (p.map cvId) b c q code h3
    have tm := toFrame_ev a r p b c q code h1 h2
    have qm := eqFrame_ev a r (p.map cvId) b c q code h3 h2
    refine Ev.congr (fun k => by rw [ht, Option.bind_some, if_neg h0]) ?_
    refine Ev.bind tm (Ev.bind e1 (Ev.bind tm (Ev.bind e2 ?_)))
    refine Ev.congr (fun k => by rw [if_neg (by simp)]) ?_
    refine Ev.bind tm (Ev.bind qm (Ev.congr (fun k => if_pos rfl) (Ev.now _)))

end Go.Proofs.Ythggcdjdikifaaa.UTotalWithin
