/- SameState of the program and of the reference answer the same at every two states. -/
import Derived.Test.YtakcljnimggjjaaQFnExactSameState
import Derived.Test.YtakcljnimggjjaaPu
set_option linter.unusedVariables false
set_option linter.unusedSimpArgs false
namespace Go.Proofs.Ytakcljnimggjjaa.USameState
open Go.RowKit Go.Proofs.Ytakcljnimggjjaa.PFnExactSameState Go.Proofs.YtakcljnimggjjaaW.PrintWords Go.Proofs.YtakcljnimggjjaaW.PrintLast Go.Proofs.YtakcljnimggjjaaW.PrintMore Go.Proofs.Ytakcljnimggjjaa.Pu

def cvId (x : S119) : S72 := ⟨x.f0, x.f1, x.f2⟩
theorem toIdS_ev (l : List S119) (hn : l.length ≤ 1048576) : Ev (fun k => laws_toIdS.f k l) (l.map cvId) := by
  have h := copy_ev (fun k x3 i => laws_toIdS.l0 k l x3 i) l cvId
    (fun x3 hx => Ev.step (f := fun _ => some x3) (fun k => by simp only [laws_toIdS.l0]; rw [if_neg (by omega)]) (Ev.now _))
    (fun i x3 r h hx e => Ev.step (fun k => by
      simp only [laws_toIdS.l0]
      rw [if_pos (by omega), if_pos (by omega)]
      simp only [laws_toId.f, Option.bind_some]
      rw [if_pos (by omega), w64 (by omega) (by omega), show rd_T119 l (i : Int) = l[i] from getD_at l _ i h]
      rfl) e) (List.replicate l.length z72) (by simp)
  refine Ev.congr (fun k => ?_) h
  unfold laws_toIdS.f
  rw [if_pos (by omega), if_pos (by omega)]
  rfl
theorem eqIdS_ev (a : List S72) (hn : a.length ≤ 1048576) : Ev (fun k => laws_eqIdS.f k a a) true := by
  have h := loop_ev (fun k i => laws_eqIdS.l0 k a a i) a.length true
    (Ev.step (f := fun _ => some true) (fun k => by simp only [laws_eqIdS.l0]; rw [if_neg (by omega)]) (Ev.now _))
    (fun i hi e => Ev.step (fun k => by
      simp only [laws_eqIdS.l0]
      rw [if_pos (by omega), if_pos (by omega), if_pos (by omega)]
      simp only [laws_eqId.f, if_true, Option.bind_some]
      rw [w64 (by omega) (by omega)]
      rfl) e) a.length 0 (by omega)
  refine Ev.congr (fun k => ?_) h
  unfold laws_eqIdS.f
  rw [if_pos rfl]
  rfl

theorem toMesh_ev (r : Int) (p : List S119) (hp : p.length ≤ 1048576) : Ev (fun k => laws_toMesh.f k r p) (r, p.map cvId) := by
  unfold laws_toMesh.f
  exact Ev.bind (toIdS_ev p hp) (Ev.now _)
theorem eqMesh_ev (r : Int) (p : List S72) (hp : p.length ≤ 1048576) : Ev (fun k => laws_eqMesh.f k r p r p) true := by
  unfold laws_eqMesh.f
  exact Ev.congr (fun k => if_pos rfl) (Ev.bind (eqIdS_ev p hp) (Ev.congr (fun k => if_pos rfl) (Ev.now _)))

theorem szMesh_eq (r : Int) (p : List S119) (s : Int) (hs : 0 ≤ s) (hs2 : s ≤ 1048576) (hp : p.length ≤ 9223372036854775807) : ∃ t, laws_szMesh.f r p s = some t ∧ t ≤ 1048576 ∧ (¬ t < 0 → p.length ≤ 1048576) := by
  unfold laws_szMesh.f laws_szIdS.f
  rw [w64 (x := s - (p.length : Int)) (by omega) (by omega)]
  by_cases h1 : s - (p.length : Int) < 0
  · rw [if_pos h1]
    exact ⟨-1, rfl, by omega, by omega⟩
  · rw [if_neg h1]
    simp only [Option.bind_some]
    rw [if_neg h1]
    exact ⟨_, rfl, by omega, by omega⟩

theorem toIntS_ev (l : List Int) (hn : l.length ≤ 1048576) : Ev (fun k => laws_toIntS.f k l) l := by
  have h := copy_ev (fun k x3 i => laws_toIntS.l0 k l x3 i) l id
    (fun x3 hx => Ev.step (f := fun _ => some x3) (fun k => by simp only [laws_toIntS.l0]; rw [if_neg (by omega)]) (Ev.now _))
    (fun i x3 r h hx e => Ev.step (fun k => by
      simp only [laws_toIntS.l0]
      rw [if_pos (by omega), if_pos (by omega), if_pos (by omega), w64 (by omega) (by omega), rd_at l i h]
      rfl) e) (List.replicate l.length 0) (by simp)
  rw [List.map_id] at h
  refine Ev.congr (fun k => ?_) h
  unfold laws_toIntS.f
  rw [if_pos (by omega), if_pos (by omega)]
  rfl

theorem eqIntS_ev (a : List Int) (hn : a.length ≤ 1048576) : Ev (fun k => laws_eqIntS.f k a a) true := by
  have h := loop_ev (fun k i => laws_eqIntS.l0 k a a i) a.length true
    (Ev.step (f := fun _ => some true) (fun k => by simp only [laws_eqIntS.l0]; rw [if_neg (by omega)]) (Ev.now _))
    (fun i hi e => Ev.step (fun k => by
      simp only [laws_eqIntS.l0]
      rw [if_pos (by omega), if_pos (by omega), if_pos (by omega), if_pos (show True from trivial), w64 (by omega) (by omega)]
      rfl) e) a.length 0 (by omega)
  refine Ev.congr (fun k => ?_) h
  unfold laws_eqIntS.f
  rw [if_pos rfl]
  rfl

theorem toState_ev (r : Int) (p : List S119) (m t b : List Int) (hp : p.length ≤ 1048576) (hm : m.length ≤ 1048576) (ht : t.length ≤ 1048576) (hb : b.length ≤ 1048576) : Ev (fun k => laws_toState.f k r p m t b) (r, p.map cvId, m, t, b) := by
  unfold laws_toState.f
  exact Ev.bind (toMesh_ev r p hp) (Ev.bind (toIntS_ev m hm) (Ev.bind (toIntS_ev t ht) (Ev.bind (toIntS_ev b hb) (Ev.now _))))
theorem eqState_ev (r : Int) (p : List S72) (m t b : List Int) (hp : p.length ≤ 1048576) (hm : m.length ≤ 1048576) (ht : t.length ≤ 1048576) (hb : b.length ≤ 1048576) : Ev (fun k => laws_eqState.f k r p m t b r p m t b) true := by
  unfold laws_eqState.f
  exact Ev.bind (eqMesh_ev r p hp) (Ev.congr (fun k => if_pos rfl) (Ev.bind (eqIntS_ev m hm) (Ev.congr (fun k => if_pos rfl) (Ev.bind (eqIntS_ev t ht) (Ev.congr (fun k => if_pos rfl) (Ev.bind (eqIntS_ev b hb) (Ev.congr (fun k => if_pos rfl) (Ev.now _))))))))
theorem szIntS_eq (l : List Int) (s : Int) (hs : 0 ≤ s) (hs2 : s ≤ 1048576) (hl : l.length ≤ 9223372036854775807) : ∃ t, laws_szIntS.f l s = some t ∧ t ≤ 1048576 ∧ (¬ t < 0 → l.length ≤ 1048576) := by
  unfold laws_szIntS.f
  rw [w64 (x := s - (l.length : Int)) (by omega) (by omega)]
  by_cases h1 : s - (l.length : Int) < 0
  · rw [if_pos h1]
    exact ⟨-1, rfl, by omega, by omega⟩
  · rw [if_neg h1]
    exact ⟨_, rfl, by omega, by omega⟩
theorem szState_eq (r : Int) (p : List S119) (m t b : List Int) (s : Int) (hs : 0 ≤ s) (hs2 : s ≤ 1048576) (hp : p.length ≤ 9223372036854775807) (hm : m.length ≤ 9223372036854775807) (ht : t.length ≤ 9223372036854775807) (hb : b.length ≤ 9223372036854775807) :
    ∃ v, laws_szState.f r p m t b s = some v ∧ v ≤ 1048576 ∧ (¬ v < 0 → p.length ≤ 1048576 ∧ m.length ≤ 1048576 ∧ t.length ≤ 1048576 ∧ b.length ≤ 1048576) := by
  have bad : ∀ P : Prop, ∃ v : Int, (some (-1) : Option Int) = some v ∧ v ≤ 1048576 ∧ (¬ v < 0 → P) := fun P => ⟨-1, rfl, by omega, fun h => absurd (show (-1 : Int) < 0 by omega) h⟩
  unfold laws_szState.f
  obtain ⟨v1, e1, a1, f1⟩ := szMesh_eq r p s hs hs2 hp
  rw [e1, Option.bind_some]
  by_cases c1 : v1 < 0
  · rw [if_pos c1]; exact bad _
  rw [if_neg c1]
  obtain ⟨v2, e2, a2, f2⟩ := szIntS_eq m v1 (by omega) a1 hm
  rw [e2, Option.bind_some]
  by_cases c2 : v2 < 0
  · rw [if_pos c2]; exact bad _
  rw [if_neg c2]
  obtain ⟨v3, e3, a3, f3⟩ := szIntS_eq t v2 (by omega) a2 ht
  rw [e3, Option.bind_some]
  by_cases c3 : v3 < 0
  · rw [if_pos c3]; exact bad _
  rw [if_neg c3]
  obtain ⟨v4, e4, a4, f4⟩ := szIntS_eq b v3 (by omega) a3 hb
  rw [e4, Option.bind_some]
  by_cases c4 : v4 < 0
  · rw [if_pos c4]; exact bad _
  rw [if_neg c4]
  exact ⟨v4, rfl, a4, fun _ => ⟨f1 c1, f2 c2, f3 c3, f4 c4⟩⟩
def sameF (x y : S72) : Bool := !(!(x.f0 == y.f0) || (!(x.f1 == y.f1) || (!(x.f2 == y.f2))))
def sameL (a b : List S72) : Nat → Nat → Bool
  | 0, _ => true
  | d + 1, i => if sameF (rd_T72 a (i : Int)) (rd_T72 b (i : Int)) = true then sameL a b d (i + 1) else false
def sameN (a b : List Int) : Nat → Nat → Bool
  | 0, _ => true
  | d + 1, i => if rd a (i : Int) = rd b (i : Int) then sameN a b d (i + 1) else false
theorem implId_l0 (a b : List S72) (ha : a.length ≤ 1048576) (hb : a.length = b.length) : ∀ (d i : Nat), i + d = a.length → Ev (fun k => impl_Id.l0 k a b (a.length : Int) (i : Int)) (sameL a b d i)
  | 0, i, h => Ev.step (f := fun _ => some true) (fun k => by simp only [impl_Id.l0]; rw [if_neg (by omega)]) (Ev.now _)
  | d + 1, i, h => by
    have hs : ∀ k, impl_Id.l0 (k + 1) a b (a.length : Int) (i : Int) = if sameF (rd_T72 a (i : Int)) (rd_T72 b (i : Int)) = true then impl_Id.l0 k a b (a.length : Int) ((i + 1 : Nat) : Int) else some false := fun k => by
      simp only [impl_Id.l0]
      rw [if_pos (by omega), if_pos (by omega), if_pos (by omega), if_pos (by omega), w64 (by omega) (by omega)]
      unfold sameF
      cases (!(rd_T72 a (i : Int)).f0 == (rd_T72 b (i : Int)).f0 || (!(rd_T72 a (i : Int)).f1 == (rd_T72 b (i : Int)).f1 || !(rd_T72 a (i : Int)).f2 == (rd_T72 b (i : Int)).f2)) <;> rfl
    rw [sameL]
    by_cases c : sameF (rd_T72 a (i : Int)) (rd_T72 b (i : Int)) = true
    · rw [if_pos c]
      exact Ev.step (fun k => by rw [hs, if_pos c]) (implId_l0 a b ha hb d (i + 1) (by omega))
    · rw [if_neg c]
      exact Ev.step (f := fun _ => some false) (fun k => by rw [hs, if_neg c]) (Ev.now _)
theorem specId_l0 (r s : Int) (a b : List S72) (ha : a.length ≤ 1048576) (hb : a.length = b.length) : ∀ (d i : Nat), i + d = a.length → Ev (fun k => spec_SameMesh.l0 k (i : Int) r a s b) (sameL a b d i)
  | 0, i, h => Ev.step (f := fun _ => some true) (fun k => by simp only [spec_SameMesh.l0]; rw [if_neg (by omega)]) (Ev.now _)
  | d + 1, i, h => by
    have hs : ∀ k, spec_SameMesh.l0 (k + 1) (i : Int) r a s b = if sameF (rd_T72 a (i : Int)) (rd_T72 b (i : Int)) = true then spec_SameMesh.l0 k ((i + 1 : Nat) : Int) r a s b else some false := fun k => by
      simp only [spec_SameMesh.l0]
      rw [if_pos (by omega), if_pos (by omega), if_pos (by omega), w64 (by omega) (by omega)]
      unfold sameF
      cases (!(rd_T72 a (i : Int)).f0 == (rd_T72 b (i : Int)).f0 || (!(rd_T72 a (i : Int)).f1 == (rd_T72 b (i : Int)).f1 || !(rd_T72 a (i : Int)).f2 == (rd_T72 b (i : Int)).f2)) <;> rfl
    rw [sameL]
    by_cases c : sameF (rd_T72 a (i : Int)) (rd_T72 b (i : Int)) = true
    · rw [if_pos c]
      exact Ev.step (fun k => by rw [hs, if_pos c]) (specId_l0 r s a b ha hb d (i + 1) (by omega))
    · rw [if_neg c]
      exact Ev.step (f := fun _ => some false) (fun k => by rw [hs, if_neg c]) (Ev.now _)
def sameM (r : Int) (a : List S72) (s : Int) (b : List S72) : Bool := if r = s ∧ a.length = b.length then sameL a b a.length 0 else false
theorem implMesh_ev (r : Int) (a : List S72) (s : Int) (b : List S72) (ha : a.length ≤ 1048576) : Ev (fun k => impl_SameMesh.f k r a s b) (sameM r a s b) := by
  unfold impl_SameMesh.f sameM
  by_cases h1 : r = s
  · refine Ev.congr (fun k => if_pos h1) ?_
    by_cases h2 : a.length = b.length
    · rw [if_pos ⟨h1, h2⟩]
      refine Ev.bind (a := sameL a b a.length 0) ?_ (Ev.now _)
      unfold impl_Id.f
      exact Ev.congr (fun k => if_pos (by omega)) (implId_l0 a b ha h2 a.length 0 (by omega))
    · rw [if_neg (fun h => h2 h.2)]
      refine Ev.bind (a := false) ?_ (Ev.now _)
      unfold impl_Id.f
      exact Ev.congr (fun k => if_neg (by omega)) (Ev.now _)
  · rw [if_neg (fun h => h1 h.1)]
    exact Ev.congr (fun k => if_neg h1) (Ev.now _)
theorem specMesh_ev (r : Int) (a : List S72) (s : Int) (b : List S72) (ha : a.length ≤ 1048576) : Ev (fun k => spec_SameMesh.f k r a s b) (sameM r a s b) := by
  unfold spec_SameMesh.f sameM
  by_cases h1 : r = s
  · refine Ev.congr (fun k => if_pos h1) ?_
    by_cases h2 : a.length = b.length
    · rw [if_pos ⟨h1, h2⟩]
      have hf : ((a.length : Int) != (b.length : Int)) = false := by simp [h2]
      exact Ev.step (fun k => by simp only [spec_SameMesh.j0]; rw [hf, if_neg (by decide)]; rfl) (specId_l0 r s a b ha h2 a.length 0 (by omega))
    · rw [if_neg (fun h => h2 h.2)]
      have hf : ((a.length : Int) != (b.length : Int)) = true := by rw [bne_iff_ne]; omega
      exact Ev.step (f := fun _ => some false) (fun k => by simp only [spec_SameMesh.j0]; rw [hf, if_pos rfl]) (Ev.now _)
  · rw [if_neg (fun h => h1 h.1)]
    refine Ev.congr (fun k => if_neg h1) (Ev.step (f := fun _ => some false) (fun k => by simp only [spec_SameMesh.j0]; rw [if_pos trivial]) (Ev.now _))
theorem equal_l0 (a b : List Int) (ha : a.length ≤ 1048576) (hb : a.length = b.length) : ∀ (d i : Nat), i + d = a.length → Ev (fun k => slices_Equal_int_int.l0 k a b (a.length : Int) (i : Int)) (sameN a b d i)
  | 0, i, h => Ev.step (f := fun _ => some true) (fun k => by simp only [slices_Equal_int_int.l0]; rw [if_neg (by omega)]) (Ev.now _)
  | d + 1, i, h => by
    rw [sameN]
    by_cases c : rd a (i : Int) = rd b (i : Int)
    · rw [if_pos c]
      exact Ev.step (fun k => by simp only [slices_Equal_int_int.l0]; rw [if_pos (by omega), if_pos (by omega), if_pos (by omega), if_pos (by omega), if_pos c, w64 (by omega) (by omega)]; rfl) (equal_l0 a b ha hb d (i + 1) (by omega))
    · rw [if_neg c]
      exact Ev.step (f := fun _ => some false) (fun k => by simp only [slices_Equal_int_int.l0]; rw [if_pos (by omega), if_pos (by omega), if_pos (by omega), if_pos (by omega), if_neg c]) (Ev.now _)
theorem l24_l0 (a b : List Int) (ha : a.length ≤ 1048576) (hb : a.length = b.length) : ∀ (d i : Nat), i + d = a.length → Ev (fun k => spec_l24Same.l0 k a b (i : Int)) (sameN a b d i)
  | 0, i, h => Ev.step (f := fun _ => some true) (fun k => by simp only [spec_l24Same.l0]; rw [if_neg (by omega)]) (Ev.now _)
  | d + 1, i, h => by
    rw [sameN]
    by_cases c : rd a (i : Int) = rd b (i : Int)
    · rw [if_pos c]
      exact Ev.step (fun k => by simp only [spec_l24Same.l0]; rw [if_pos (by omega), if_pos (by omega), if_pos (by omega), if_pos c, w64 (by omega) (by omega)]; rfl) (l24_l0 a b ha hb d (i + 1) (by omega))
    · rw [if_neg c]
      exact Ev.step (f := fun _ => some false) (fun k => by simp only [spec_l24Same.l0]; rw [if_pos (by omega), if_pos (by omega), if_pos (by omega), if_neg c]) (Ev.now _)
def sameI (a b : List Int) : Bool := if a.length = b.length then sameN a b a.length 0 else false
theorem equal_ev (a b : List Int) (ha : a.length ≤ 1048576) : Ev (fun k => slices_Equal_int_int.f k a b) (sameI a b) := by
  unfold slices_Equal_int_int.f sameI
  by_cases h2 : a.length = b.length
  · rw [if_pos h2]
    exact Ev.congr (fun k => if_pos (by omega)) (equal_l0 a b ha h2 a.length 0 (by omega))
  · rw [if_neg h2]
    exact Ev.congr (fun k => if_neg (by omega)) (Ev.now _)
theorem l24_ev (a b : List Int) (ha : a.length ≤ 1048576) : Ev (fun k => spec_l24Same.f k a b) (sameI a b) := by
  unfold spec_l24Same.f sameI
  by_cases h2 : a.length = b.length
  · rw [if_pos h2]
    exact Ev.congr (fun k => if_pos (by omega)) (l24_l0 a b ha h2 a.length 0 (by omega))
  · rw [if_neg h2]
    exact Ev.congr (fun k => if_neg (by omega)) (Ev.now _)
theorem and_ev {f g : Nat → Option Bool} {x y : Bool} (hf : Ev f x) (hg : Ev g y) : Ev (fun k => (f k).bind fun t => if t = true then g k else some false) (x && y) := by
  refine Ev.bind hf ?_
  cases x with
  | true => exact Ev.congr (fun k => if_pos rfl) hg
  | false => exact Ev.congr (fun k => if_neg (by decide)) (Ev.now _)
theorem last_ev {f : Nat → Option Bool} {x : Bool} (hf : Ev f x) : Ev (fun k => (f k).bind fun t => some t) x := Ev.bind hf (Ev.now _)
theorem same (r : Int) (p : List S72) (m t b : List Int) (r' : Int) (p' : List S72) (m' t' b' : List Int) (hp : p.length ≤ 1048576) (hm : m.length ≤ 1048576) (ht : t.length ≤ 1048576) (hb : b.length ≤ 1048576) :
    ∃ v : Bool, Ev (fun k => spec_SameState.f k r p m t b r' p' m' t' b') v ∧ Ev (fun k => impl_SameState.f k r p m t b r' p' m' t' b') v := by
  unfold spec_SameState.f impl_SameState.f
  exact ⟨_, and_ev (specMesh_ev r p r' p' hp) (and_ev (l24_ev m m' hm) (and_ev (l24_ev t t' ht) (last_ev (l24_ev b b' hb)))), and_ev (implMesh_ev r p r' p' hp) (and_ev (equal_ev m m' hm) (and_ev (equal_ev t t' ht) (last_ev (equal_ev b b' hb))))⟩
theorem law_ev (r : Int) (p : List S119) (m t b : List Int) (r' : Int) (p' : List S119) (m' t' b' : List Int) (hp : p.length ≤ 9223372036854775807) (hm : m.length ≤ 9223372036854775807) (ht : t.length ≤ 9223372036854775807) (hb : b.length ≤ 9223372036854775807) (hp' : p'.length ≤ 9223372036854775807) (hm' : m'.length ≤ 9223372036854775807) (ht' : t'.length ≤ 9223372036854775807) (hb' : b'.length ≤ 9223372036854775807) :
    ∃ k, laws_FnExactSameState.f k r p m t b r' p' m' t' b' = some true := by
  refine Ev.rounds (g := fun k => laws_FnExactSameState.f k r p m t b r' p' m' t' b') ?_
  unfold laws_FnExactSameState.f
  obtain ⟨v, ev, av, fv⟩ := szState_eq r p m t b 1048576 (by omega) (by omega) hp hm ht hb
  by_cases c1 : v < 0
  · exact Ev.congr (fun k => by rw [ev, Option.bind_some, if_pos c1]) (Ev.now _)
  obtain ⟨v', ev', av', fv'⟩ := szState_eq r' p' m' t' b' v (by omega) av hp' hm' ht' hb'
  by_cases c2 : v' < 0
  · exact Ev.congr (fun k => by rw [ev, Option.bind_some, if_neg c1, ev', Option.bind_some, if_pos c2]) (Ev.now _)
  obtain ⟨g1, g2, g3, g4⟩ := fv c1
  obtain ⟨g5, g6, g7, g8⟩ := fv' c2
  have h1 : (p.map cvId).length ≤ 1048576 := by rw [List.length_map]; exact g1
  have h2 : (p'.map cvId).length ≤ 1048576 := by rw [List.length_map]; exact g5
  have ta := toState_ev r p m t b g1 g2 g3 g4
  have tb := toState_ev r' p' m' t' b' g5 g6 g7 g8
  obtain ⟨x, e1, e2⟩ := same r (p.map cvId) m t b r' (p'.map cvId) m' t' b' h1 g2 g3 g4
  refine Ev.congr (fun k => by rw [ev, Option.bind_some, if_neg c1, ev', Option.bind_some, if_neg c2]) ?_
  refine Ev.bind ta (Ev.bind tb (Ev.bind e1 (Ev.bind ta (Ev.bind tb (Ev.bind e2 ?_)))))
  refine Ev.congr (fun k => by rw [if_neg (by simp)]) ?_
  refine Ev.bind ta (Ev.bind (eqState_ev r (p.map cvId) m t b h1 g2 g3 g4) (Ev.congr (fun k => if_pos rfl) ?_))
  exact Ev.bind tb (Ev.bind (eqState_ev r' (p'.map cvId) m' t' b' h2 g6 g7 g8) (Ev.congr (fun k => if_pos rfl) (Ev.now _)))

end Go.Proofs.Ytakcljnimggjjaa.USameState
