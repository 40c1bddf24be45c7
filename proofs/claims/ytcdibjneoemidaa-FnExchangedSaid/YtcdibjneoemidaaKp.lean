
/- What Deliver keeps; the numbers that are missing. -/
import Derived.Test.YtcdibjneoemidaaKk
set_option linter.unusedVariables false
set_option linter.unusedSimpArgs false
namespace Go.Proofs.Ytcdibjneoemidaa.U
open Go.RowKit Go.Lib Go.Proofs.YtcdibjneoemidaaW.PrintWords

theorem insS_cons (b : Pk) (r : List Pk) (p : Pk) : insS (b :: r) p = if b.q < p.q then b :: insS r p else p :: b :: r := by
  rw [insS, posP]
  split
  · rw [List.take_succ_cons, List.drop_succ_cons]; rfl
  · rfl
theorem hasP_nil (x : Int) : hasP [] x = false := rfl
theorem hasP_cons (b : Pk) (r : List Pk) (x : Int) : hasP (b :: r) x = if b.q < x then hasP r x else (b.q == x) := by
  rw [hasP, posP]
  split
  · rw [List.length_cons, gp_succ, hasP]
    congr 1
    simp
  · simp [gp]
theorem okFrom_cons (b : Pk) (r : List Pk) (a : Int) : okFrom (b :: r) a = true ↔ a < b.q ∧ okFrom r b.q = true := by
  simp only [okFrom, Bool.and_eq_true, decide_eq_true_eq]
theorem okFrom_insS : ∀ (e : List Pk) (a : Int) (p : Pk), okFrom e a = true → a < p.q → hasP e p.q = false → okFrom (insS e p) a = true
  | [], a, p, _, h, _ => by
    rw [show insS [] p = [p] from rfl, okFrom_cons]
    exact ⟨h, rfl⟩
  | b :: r, a, p, h, ha, hh => by
    rw [insS_cons]
    rw [hasP_cons] at hh
    rw [okFrom_cons] at h
    split
    · rename_i c
      rw [if_pos c] at hh
      rw [okFrom_cons]
      exact ⟨h.1, okFrom_insS r b.q p h.2 c hh⟩
    · rename_i c
      rw [if_neg c] at hh
      have hne : b.q ≠ p.q := by simpa using hh
      rw [okFrom_cons, okFrom_cons]
      exact ⟨ha, by omega, h.2⟩
theorem hasP_insS : ∀ (e : List Pk) (p : Pk), hasP (insS e p) p.q = true
  | [], p => by
    rw [show insS [] p = [p] from rfl, hasP_cons, if_neg (by omega)]
    simp
  | b :: r, p => by
    rw [insS_cons]
    split
    · rename_i c
      rw [hasP_cons, if_pos c]
      exact hasP_insS r p
    · rw [hasP_cons, if_neg (by omega)]
      simp
theorem mem_insS {e : List Pk} {p x : Pk} (h : x ∈ insS e p) : x = p ∨ x ∈ e := by
  rw [insS, List.mem_append, List.mem_cons] at h
  rcases h with h | h | h
  · exact .inr (List.mem_of_mem_take h)
  · exact .inl h
  · exact .inr (List.mem_of_mem_drop h)
/-- an inbox that holds values of vs -/
structure Good (vs : List Int) (s : Ib) : Prop where
  ok : okFrom s.e (s.g.length : Int) = true
  le : s.e.length ≤ 16
  gl : s.g.length ≤ vs.length
  gv : ∀ j, j < s.g.length → rd s.g (j : Int) = rd vs (j : Int)
  ev : ∀ p ∈ s.e, p.q < (vs.length : Int) ∧ p.v = rd vs p.q
theorem Good.ibOk {vs : List Int} {s : Ib} (h : Good vs s) (hn : vs.length ≤ 1000) : ibOk s = true := by
  simp only [ibOk.eq_1, Bool.and_eq_true, decide_eq_true_eq]
  exact ⟨Nat.le_trans h.gl hn, h.le, h.ok⟩
theorem Good.zero (vs : List Int) : Good vs ⟨[], []⟩ := ⟨rfl, by simp, by simp, fun j hj => by simp at hj, fun p hp => by simp at hp⟩
theorem rd_snoc (g : List Int) (v : Int) (j : Nat) (hj : j < (g ++ [v]).length) : rd (g ++ [v]) (j : Int) = if j < g.length then rd g (j : Int) else v := by
  rw [rd_nat, rd_nat, List.getD_eq_getElem?_getD, List.getD_eq_getElem?_getD]
  split
  · rename_i h
    rw [List.getElem?_append_left h]
  · rename_i h
    simp at hj
    rw [List.getElem?_append_right (by omega), show j - g.length = 0 by omega]
    rfl
theorem good_drain {vs : List Int} (hn : vs.length ≤ 1000) : ∀ (e : List Pk) (g : List Int), okFrom e ((g.length : Int) - 1) = true → e.length ≤ 16 → g.length ≤ vs.length → (∀ j, j < g.length → rd g (j : Int) = rd vs (j : Int)) → (∀ p ∈ e, p.q < (vs.length : Int) ∧ p.v = rd vs p.q) → Good vs (drain g e) ∧ g.length ≤ (drain g e).g.length
  | [], g, _, h2, h3, h4, h5 => ⟨⟨rfl, h2, h3, h4, h5⟩, Nat.le_refl _⟩
  | p :: r, g, h1, h2, h3, h4, h5 => by
    have hp := h5 p (List.mem_cons_self ..)
    rw [okFrom_cons] at h1
    rw [drain]
    split
    · rename_i c
      have hlen : (g ++ [p.v]).length = g.length + 1 := by simp
      have ih := good_drain hn r (g ++ [p.v]) (by rw [hlen, show (((g.length + 1 : Nat) : Int) - 1) = p.q by omega]; exact h1.2) (by rw [List.length_cons] at h2; omega) (by rw [hlen]; omega) (fun j hj => by
        rw [rd_snoc g p.v j hj]
        split
        · rename_i hl
          exact h4 j hl
        · rw [hlen] at hj
          rw [hp.2, c.1, show j = g.length by omega]) (fun q hq => h5 q (List.mem_cons_of_mem _ hq))
      rw [hlen] at ih
      exact ⟨ih.1, by omega⟩
    · rename_i c
      have hne : p.q ≠ (g.length : Int) := fun e => c ⟨e, by omega⟩
      exact ⟨⟨by rw [okFrom_cons]; exact ⟨by show (g.length : Int) < p.q; omega, h1.2⟩, h2, h3, h4, h5⟩, Nat.le_refl _⟩
/-- what Deliver keeps, and that what has come grows -/
theorem good_del {vs : List Int} {s : Ib} (h : Good vs s) (hn : vs.length ≤ 1000) (q : Nat) (hq : q < vs.length) :
    Good vs (delS s ⟨q, rd vs (q : Int)⟩) ∧ s.g.length ≤ (delS s ⟨q, rd vs (q : Int)⟩).g.length ∧ (s.g.length = q → s.g.length < (delS s ⟨q, rd vs (q : Int)⟩).g.length) := by
  have hok := h.ibOk hn
  rw [delS]
  split
  · split
    · rename_i e
      simp only at e
      have hlen : (s.g ++ [rd vs (q : Int)]).length = s.g.length + 1 := by simp
      have hd := good_drain hn s.e (s.g ++ [rd vs (q : Int)]) (by rw [hlen, show (((s.g.length + 1 : Nat) : Int) - 1) = (s.g.length : Int) by omega]; exact h.ok) h.le (by rw [hlen]; omega) (fun j hj => by
        rw [rd_snoc _ _ j hj]
        split
        · rename_i hl
          exact h.gv j hl
        · rw [hlen] at hj
          rw [show j = q by omega]) h.ev
      rw [hlen] at hd
      exact ⟨hd.1, by simp only; omega, fun _ => by simp only; omega⟩
    · rename_i e
      simp only at e
      split
      · rename_i c
        refine ⟨⟨okFrom_insS _ _ _ h.ok c.1 c.2.2, by simp only; rw [insS_len]; omega, h.gl, h.gv, fun p hp => ?_⟩, Nat.le_refl _, fun e2 => by omega⟩
        rcases mem_insS hp with rfl | hp
        · exact ⟨by simp only; omega, rfl⟩
        · exact h.ev p hp
      · exact ⟨h, Nat.le_refl _, fun e2 => by omega⟩
  · rename_i c
    refine ⟨h, Nat.le_refl _, fun e2 => absurd ⟨hok, ?_⟩ c⟩
    have := h.gl
    omega
/-- a packet that arrives again changes nothing -/
theorem del_twice {vs : List Int} {s : Ib} (h : Good vs s) (hn : vs.length ≤ 1000) (q : Nat) (hq : q < vs.length) :
    delS (delS s ⟨q, rd vs (q : Int)⟩) ⟨q, rd vs (q : Int)⟩ = delS s ⟨q, rd vs (q : Int)⟩ := by
  obtain ⟨hg, h1, h2⟩ := good_del h hn q hq
  by_cases c : s.g.length = q
  · exact (delS_old (show ((q : Nat) : Int) < _ by have := h2 c; omega)).symm
  · rw [show delS s ⟨q, rd vs (q : Int)⟩ = if ibOk s = true ∧ s.g.length < 1000 then (if (q : Int) = (s.g.length : Int) then drain (s.g ++ [rd vs (q : Int)]) s.e else if (s.g.length : Int) < (q : Int) ∧ s.e.length < 16 ∧ hasP s.e (q : Int) = false then ⟨s.g, insS s.e ⟨q, rd vs (q : Int)⟩⟩ else s) else s from rfl]
    split
    · rw [if_neg (by omega)]
      split
      · rename_i c3
        rw [delS]
        split
        · rw [if_neg (by simp only; omega), if_neg (fun c4 => by
            have := hasP_insS s.e ⟨q, rd vs (q : Int)⟩
            have c5 := c4.2.2
            simp only at c5 this
            rw [this] at c5
            cases c5)]
        · rfl
      · rename_i c1 c3
        rw [delS, if_pos c1, if_neg (by simp only; omega), if_neg c3]
    · rename_i c1
      rw [delS, if_neg c1]
/-- the numbers a, a + 1, .. (k of them) that are not among e's -/
def misF (e : List Pk) : Nat → Nat → List Int
  | _, 0 => []
  | a, k + 1 => if hasP e (a : Int) = true then misF e (a + 1) k else (a : Int) :: misF e (a + 1) k
theorem misF_snoc (e : List Pk) : ∀ (k a : Nat), misF e a (k + 1) = misF e a k ++ (if hasP e ((a + k : Nat) : Int) = true then [] else [((a + k : Nat) : Int)])
  | 0, a => by
    rw [misF, misF, misF, List.nil_append, Nat.add_zero]
  | k + 1, a => by
    rw [misF, misF_snoc e k (a + 1), misF, show a + 1 + k = a + (k + 1) by omega]
    split
    · rfl
    · rw [List.cons_append]
theorem misF_mem (e : List Pk) : ∀ (k a : Nat) (x : Int), x ∈ misF e a k → ∃ q : Nat, x = (q : Int) ∧ a ≤ q ∧ q < a + k
  | 0, _, x, h => by simp [misF] at h
  | k + 1, a, x, h => by
    rw [misF] at h
    split at h
    · obtain ⟨q, e1, e2, e3⟩ := misF_mem e k (a + 1) x h
      exact ⟨q, e1, by omega, by omega⟩
    · rcases List.mem_cons.1 h with rfl | h
      · exact ⟨a, rfl, by omega, by omega⟩
      · obtain ⟨q, e1, e2, e3⟩ := misF_mem e k (a + 1) x h
        exact ⟨q, e1, by omega, by omega⟩
theorem misF_len (e : List Pk) : ∀ (k a : Nat), (misF e a k).length ≤ k
  | 0, _ => Nat.le_refl _
  | k + 1, a => by
    rw [misF]
    have := misF_len e k (a + 1)
    split
    · omega
    · rw [List.length_cons]; omega
theorem misF_past (p : Pk) (r : List Pk) : ∀ (k a : Nat), p.q < (a : Int) → misF (p :: r) a k = misF r a k
  | 0, _, _ => rfl
  | k + 1, a, h => by
    rw [misF, misF, hasP_cons, if_pos h, misF_past p r k (a + 1) (by omega)]
theorem mis_count : ∀ (k a : Nat) (e : List Pk), okFrom e ((a : Int) - 1) = true → (∀ p ∈ e, p.q < ((a + k : Nat) : Int)) → (misF e a k).length + e.length = k
  | 0, a, [], _, _ => rfl
  | 0, a, p :: r, h, hp => by
    rw [okFrom_cons] at h
    have := hp p (List.mem_cons_self ..)
    omega
  | k + 1, a, [], h, hp => by
    have ih := mis_count k (a + 1) [] rfl (fun p hp => by simp at hp)
    rw [misF, hasP_nil]
    simp only [List.length_cons, List.length_nil] at ih ⊢
    simp
    omega
  | k + 1, a, p :: r, h, hp => by
    rw [okFrom_cons] at h
    have hh : hasP (p :: r) (a : Int) = (p.q == (a : Int)) := by rw [hasP_cons, if_neg (by omega)]
    rw [misF, hh]
    by_cases c : p.q = (a : Int)
    · have ih := mis_count k (a + 1) r (by rw [show (((a + 1 : Nat) : Int) - 1) = p.q by omega]; exact h.2) (fun q hq => by have := hp q (List.mem_cons_of_mem _ hq); omega)
      rw [if_pos (by simp [c]), misF_past p r k (a + 1) (by omega), List.length_cons]
      omega
    · have ih := mis_count k (a + 1) (p :: r) (by rw [okFrom_cons]; exact ⟨by omega, h.2⟩) (fun q hq => by have := hp q hq; omega)
      rw [if_neg (by simp [c]), List.length_cons]
      omega
theorem okFrom_less {e : List Pk} {a b : Int} (h : okFrom e a = true) (hb : b ≤ a) : okFrom e b = true := by
  cases e with
  | nil => rfl
  | cons p r =>
    rw [okFrom_cons] at h ⊢
    exact ⟨by omega, h.2⟩
theorem Good.count {vs : List Int} {s : Ib} (h : Good vs s) : (misF s.e s.g.length (vs.length - s.g.length)).length + s.g.length + s.e.length = vs.length := by
  have := mis_count (vs.length - s.g.length) s.g.length s.e (okFrom_less h.ok (by omega)) (fun p hp => by have := (h.ev p hp).1; have := h.gl; omega)
  have := h.gl
  omega
theorem posP_next : ∀ (e : List Pk) (a q : Int), okFrom e a = true → posP e (q + 1) = if hasP e q = true then posP e q + 1 else posP e q
  | [], _, _, _ => rfl
  | p :: r, a, q, h => by
    rw [okFrom_cons] at h
    rw [hasP_cons, posP, posP]
    by_cases c : p.q < q
    · rw [if_pos (by omega), if_pos c, if_pos c, posP_next r p.q q h.2]
      split <;> rfl
    · rw [if_neg c, if_neg c]
      by_cases c2 : p.q = q
      · rw [if_pos (by omega), if_pos (by simp [c2])]
        cases r with
        | nil => rfl
        | cons b r2 =>
          have := (okFrom_cons b r2 p.q).1 h.2
          rw [posP, if_neg (by omega)]
      · rw [if_neg (by omega), if_neg (by simp [c2])]
end Go.Proofs.Ytcdibjneoemidaa.U
