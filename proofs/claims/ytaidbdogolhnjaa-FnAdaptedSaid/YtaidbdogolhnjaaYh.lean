
/- Refining and coarsening: the plain law. -/
import Derived.Test.YtaidbdogolhnjaaYg
set_option linter.unusedVariables false
set_option linter.unusedSimpArgs false
namespace Go.Proofs.Ytaidbdogolhnjaa.U
open Go.RowKit Go.Lib Go.Proofs.YtaidbdogolhnjaaW.PrintWords

open Go.Proofs.YtaidbdogolhnjaaW.PrintLast Go.Proofs.YtaidbdogolhnjaaW.PrintMore
theorem firstUn_neg (l : List Ce) : ∀ (d j : Nat), l.length ≤ j + d → firstUn l d j < 0 → ∀ k, j ≤ k → k + 1 < l.length → (gc l k).l - (gc l (k + 1)).l ≤ 1 ∧ -1 ≤ (gc l k).l - (gc l (k + 1)).l
  | 0, j, hd, _, k, h1, h2 => by omega
  | d + 1, j, hd, h, k, h1, h2 => by
    rw [firstUn] at h
    split at h
    · rename_i hj
      split at h
      · omega
      · rename_i hb
        rcases Nat.eq_or_lt_of_le h1 with rfl | h3
        · omega
        · exact firstUn_neg l d (j + 1) (by omega) h k h3 h2
    · omega
theorem firstUn_all (l : List Ce) (h : ∀ k, k + 1 < l.length → (gc l k).l - (gc l (k + 1)).l ≤ 1 ∧ -1 ≤ (gc l k).l - (gc l (k + 1)).l) : ∀ (d j : Nat), firstUn l d j < 0
  | 0, j => by simp [firstUn]
  | d + 1, j => by
    rw [firstUn]
    split
    · rename_i hj
      have := h j hj
      rw [if_neg (by omega)]
      exact firstUn_all l h d (j + 1)
    · omega
theorem isBal_iff {ro : Int} {l : List Ce} : isBal ro l = true ↔ meshOk ro l = true ∧ ∀ k, k + 1 < l.length → (gc l k).l - (gc l (k + 1)).l ≤ 1 ∧ -1 ≤ (gc l k).l - (gc l (k + 1)).l := by
  rw [isBal, Bool.and_eq_true, decide_eq_true_iff]
  constructor
  · rintro ⟨h1, h2⟩
    exact ⟨h1, fun k hk => firstUn_neg l l.length 0 (by omega) h2 k (by omega) hk⟩
  · rintro ⟨h1, h2⟩
    exact ⟨h1, firstUn_all l h2 _ _⟩
theorem getD_mid {α : Type} (l : List α) (i : Nat) (m : List α) (n : Nat) (z : α) (hi : i ≤ l.length) (j : Nat) :
    (l.take i ++ m ++ l.drop n).getD j z = if j < i then l.getD j z else if j < i + m.length then m.getD (j - i) z else l.getD (j - (i + m.length) + n) z := by
  have ht : (l.take i).length = i := by rw [List.length_take]; omega
  simp only [List.getD_eq_getElem?_getD]
  by_cases h1 : j < i
  · rw [if_pos h1, List.append_assoc, List.getElem?_append_left (by omega), List.getElem?_take, if_pos h1]
  · rw [if_neg h1]
    by_cases h2 : j < i + m.length
    · rw [if_pos h2, List.append_assoc, List.getElem?_append_right (by omega), ht, List.getElem?_append_left (by omega)]
    · rw [if_neg h2, List.getElem?_append_right (by simp only [List.length_append]; omega), List.getElem?_drop]
      congr 2
      simp only [List.length_append]
      omega
theorem rd_refM {l : List Int} {i : Nat} (a b : Int) (hi : i < l.length) (j : Nat) : rd (refM l i a b) (j : Int) = if j < i then rd l (j : Int) else if j = i then a else if j = i + 1 then b else rd l ((j - 1 : Nat) : Int) := by
  rw [rd_nat, rd_nat, rd_nat, refM, getD_mid _ _ _ _ _ (by omega)]
  by_cases h1 : j < i
  · rw [if_pos h1, if_pos h1]
  · rw [if_neg h1, if_neg h1]
    by_cases h2 : j = i
    · subst h2
      rw [if_pos (by simp), if_pos rfl]
      simp
    · rw [if_neg h2]
      by_cases h3 : j = i + 1
      · subst h3
        rw [if_pos (by simp), if_pos rfl]
        simp
      · rw [if_neg h3, if_neg (by simp; omega), show j - (i + [a, b].length) + (i + 1) = j - 1 by simp; omega]
theorem gc_split {l : List Ce} {i : Nat} (hi : i < l.length) (j : Nat) : gc (splitC l i) j = if j < i then gc l j else if j = i then kid (gc l i) 0 else if j = i + 1 then kid (gc l i) 1 else gc l (j - 1) := by
  show (l.take i ++ [kid (gc l i) 0, kid (gc l i) 1] ++ l.drop (i + 1)).getD j cz = _
  rw [getD_mid _ _ _ _ _ (by omega)]
  by_cases h1 : j < i
  · rw [if_pos h1, if_pos h1]; rfl
  · rw [if_neg h1, if_neg h1]
    by_cases h2 : j = i
    · subst h2
      rw [if_pos (by simp), if_pos rfl, Nat.sub_self]
      rfl
    · rw [if_neg h2]
      by_cases h3 : j = i + 1
      · subst h3
        rw [if_pos (by simp), if_pos rfl, show i + 1 - i = 1 by omega]
        rfl
      · rw [if_neg h3, if_neg (by simp; omega), show j - (i + [kid (gc l i) 0, kid (gc l i) 1].length) + (i + 1) = j - 1 by simp; omega]
        rfl
theorem sum_refM {l : List Int} {i : Nat} {a b : Int} (hi : i < l.length) (h : a + b = rd l (i : Int)) : (refM l i a b).sum = l.sum := by
  have e : l = l.take i ++ [rd l (i : Int)] ++ l.drop (i + 1) := by
    rw [rd_nat, List.getD_eq_getElem?_getD, List.getElem?_eq_getElem hi, Option.getD_some, List.append_assoc, List.singleton_append, ← List.drop_eq_getElem_cons hi, List.take_append_drop]
  conv => rhs; rw [e]
  rw [refM]
  simp only [List.sum_append, List.sum_cons, List.sum_nil]
  omega
theorem cellsOk_of (ms ts : List Int) : ∀ (d j : Nat), (∀ i, j ≤ i → i < j + d → (0 ≤ rd ms (i : Int) ∧ rd ms (i : Int) ≤ 10000000) ∧ (0 ≤ rd ts (i : Int) ∧ rd ts (i : Int) ≤ 1000 * rd ms (i : Int))) → cellsOk ms ts d j = true
  | 0, j, _ => rfl
  | d + 1, j, h => by
    rw [cellsOk, Bool.and_eq_true, Bool.and_eq_true, inR_iff, inR_iff]
    exact ⟨h j (Nat.le_refl _) (by omega), cellsOk_of ms ts d (j + 1) (fun i h1 h2 => h i (by omega) (by omega))⟩
theorem hasC_iff {ro : Int} {n : Nat} {ms ts bd : List Int} : hasC ro n ms ts bd = true ↔ ms.length = n ∧ ts.length = n ∧ (bd.length : Int) = ro ∧ bd.all (inR · 0 1000000) = true ∧ (∀ i, i < n → (0 ≤ rd ms (i : Int) ∧ rd ms (i : Int) ≤ 10000000) ∧ (0 ≤ rd ts (i : Int) ∧ rd ts (i : Int) ≤ 1000 * rd ms (i : Int))) ∧ ms.sum ≤ 10000000 := by
  simp only [hasC, Bool.and_eq_true, decide_eq_true_iff]
  constructor
  · rintro ⟨⟨⟨⟨⟨h1, h2⟩, h3⟩, h4⟩, h5⟩, h6⟩
    exact ⟨h1, h2, h3, h4, fun i hi => cellsOk_at ms ts n 0 h5 i (by omega) (by omega), h6⟩
  · rintro ⟨h1, h2, h3, h4, h5, h6⟩
    exact ⟨⟨⟨⟨⟨h1, h2⟩, h3⟩, h4⟩, cellsOk_of ms ts n 0 (fun i _ h => h5 i (by omega))⟩, h6⟩
/-- the cells of a refined state are valid -/
theorem refS_has {s : Sta} {i : Nat} (h : hasC s.ro s.lv.length s.ms s.ts s.bd = true) (hi : i < s.lv.length) : hasC s.ro (refS s i).lv.length (refS s i).ms (refS s i).ts s.bd = true := by
  obtain ⟨h1, h2, h3, h4, h5, h6⟩ := hasC_iff.1 h
  obtain ⟨hm, ht⟩ := h5 i hi
  have hh := half_range hm.1
  have ho := outA_range (r := rd s.ms (i : Int) - Int.tdiv (rd s.ms (i : Int)) 2) hm.1 ht (by omega)
  refine hasC_iff.2 ⟨?_, ?_, h3, h4, fun j hj => ?_, ?_⟩
  · show (refM s.ms i _ _).length = (splitC s.lv i).length
    rw [refM_length (by omega), splitC_length hi, h1]
  · show (refM s.ts i _ _).length = (splitC s.lv i).length
    rw [refM_length (by omega), splitC_length hi, h2]
  · have hj' : j < s.lv.length + 1 := by
      have : (refS s i).lv.length = s.lv.length + 1 := splitC_length hi
      omega
    show (0 ≤ rd (refM s.ms i _ _) (j : Int) ∧ rd (refM s.ms i _ _) (j : Int) ≤ 10000000) ∧ (0 ≤ rd (refM s.ts i _ _) (j : Int) ∧ rd (refM s.ts i _ _) (j : Int) ≤ 1000 * rd (refM s.ms i _ _) (j : Int))
    rw [rd_refM _ _ (by omega), rd_refM _ _ (by omega)]
    by_cases c1 : j < i
    · rw [if_pos c1, if_pos c1]; exact h5 j (by omega)
    · rw [if_neg c1, if_neg c1]
      by_cases c2 : j = i
      · rw [if_pos c2, if_pos c2]; omega
      · rw [if_neg c2, if_neg c2]
        by_cases c3 : j = i + 1
        · rw [if_pos c3, if_pos c3]; omega
        · rw [if_neg c3, if_neg c3]; exact h5 (j - 1) (by omega)
  · show (refM s.ms i _ _).sum ≤ 10000000
    rw [sum_refM (by omega) (by omega)]
    exact h6
theorem staOk_iff {s : Sta} : staOk s.ro s.lv s.ms s.ts s.bd = true ↔ isBal s.ro s.lv = true ∧ hasC s.ro s.lv.length s.ms s.ts s.bd = true := by rw [staOk, Bool.and_eq_true]
theorem parC_kid {x : Ce} {k : Int} (hx : ceOk x = true) (hl : x.l < 4) (hk : 0 ≤ k ∧ k ≤ 1) (hok : ceOk (kid x k) = true) : hasPar (kid x k) = true ∧ parC (kid x k) = x := by
  obtain ⟨h1, h2, h3, h4⟩ := ceOk_facts hx
  have hp : hasPar (kid x k) = true := by
    rw [hasPar, hok, Bool.true_and]
    simp only [kid, Bool.not_eq_true', beq_eq_false_iff_ne]
    omega
  refine ⟨hp, ?_⟩
  rw [parC, if_pos hp]
  obtain ⟨a, b, c⟩ := x
  simp only [kid]
  simp only at h3
  congr 1
  · omega
  · rw [Int.tdiv_eq_ediv_of_nonneg (by omega)]
    omega
theorem sib_kids {x : Ce} (hx : ceOk x = true) (hl : x.l < 4) (h0 : ceOk (kid x 0) = true) (h1 : ceOk (kid x 1) = true) : sibB (kid x 0) (kid x 1) = true := by
  obtain ⟨a, b⟩ := parC_kid hx hl (by omega) h0
  obtain ⟨c, d⟩ := parC_kid hx hl (by omega) h1
  have hf := ceOk_facts hx
  rw [sibB, a, b, c, d]
  simp only [ceB, kid, Bool.true_and, beq_self_eq_true, Bool.and_eq_true, beq_iff_eq]
  constructor
  · rw [Int.tmod_eq_emod_of_nonneg (by omega)]
    omega
  · omega
theorem merM_refM {l : List Int} {i : Nat} {a b : Int} (hi : i < l.length) : merM (refM l i a b) i (rd l (i : Int)) = l := by
  have ht : (l.take i).length = i := by rw [List.length_take]; omega
  have e1 : (refM l i a b).take i = l.take i := by rw [refM, List.append_assoc, List.take_left' ht]
  have e2 : (refM l i a b).drop (i + 2) = l.drop (i + 1) := by rw [refM, List.drop_left' (by simp only [List.length_append, List.length_cons, List.length_nil]; omega)]
  rw [merM, e1, e2, rd_nat, List.getD_eq_getElem?_getD, List.getElem?_eq_getElem hi, Option.getD_some, List.append_assoc, List.singleton_append, ← List.drop_eq_getElem_cons hi, List.take_append_drop]
theorem merC_split {l : List Ce} {i : Nat} (hi : i < l.length) (hp : parC (kid (gc l i) 0) = gc l i) : merC (splitC l i) i = l := by
  have ht : (l.take i).length = i := by rw [List.length_take]; omega
  have e1 : (splitC l i).take i = l.take i := by rw [splitC, List.append_assoc, List.take_left' ht]
  have e2 : (splitC l i).drop (i + 2) = l.drop (i + 1) := by rw [splitC, List.drop_left' (by simp only [List.length_append, List.length_cons, List.length_nil]; omega)]
  have e3 : gc (splitC l i) i = kid (gc l i) 0 := by rw [gc_split hi, if_neg (by omega), if_pos rfl]
  rw [merC, e1, e2, e3, hp, gc_at hi, List.append_assoc, List.singleton_append, ← List.drop_eq_getElem_cons hi, List.take_append_drop]
/-- coarsening undoes refining -/
theorem mer_ref {s : Sta} {i : Nat} (h : staOk s.ro s.lv s.ms s.ts s.bd = true) (hi : i < s.lv.length) (hl : (gc s.lv i).l < 4) : merS (refS s i) i = s := by
  obtain ⟨hb, hc⟩ := staOk_iff.1 h
  obtain ⟨h1, h2, _⟩ := hasC_iff.1 hc
  have hx := meshOk_all (isBal_iff.1 hb).1 _ (gc_mem hi)
  have hk := kid_ok hx hl 0 (by omega)
  have e1 := rd_refM (l := s.ms) (i := i) (rd s.ms (i : Int) - Int.tdiv (rd s.ms (i : Int)) 2) (Int.tdiv (rd s.ms (i : Int)) 2) (by omega)
  have e2 := rd_refM (l := s.ts) (i := i) (outA (rd s.ts (i : Int)) (rd s.ms (i : Int)) (rd s.ms (i : Int) - Int.tdiv (rd s.ms (i : Int)) 2)) (rd s.ts (i : Int) - outA (rd s.ts (i : Int)) (rd s.ms (i : Int)) (rd s.ms (i : Int) - Int.tdiv (rd s.ms (i : Int)) 2)) (by omega)
  have m1 := e1 i
  have m2 := e1 (i + 1)
  have t1 := e2 i
  have t2 := e2 (i + 1)
  rw [if_neg (by omega), if_pos rfl] at m1 t1
  rw [if_neg (by omega), if_neg (by omega), if_pos rfl] at m2 t2
  have a1 : merC (splitC s.lv i) i = s.lv := merC_split hi (parC_kid hx hl (by omega) hk).2
  have a2 := merM_refM (l := s.ms) (i := i) (a := rd s.ms (i : Int) - Int.tdiv (rd s.ms (i : Int)) 2) (b := Int.tdiv (rd s.ms (i : Int)) 2) (by omega)
  have a3 := merM_refM (l := s.ts) (i := i) (a := outA (rd s.ts (i : Int)) (rd s.ms (i : Int)) (rd s.ms (i : Int) - Int.tdiv (rd s.ms (i : Int)) 2)) (b := rd s.ts (i : Int) - outA (rd s.ts (i : Int)) (rd s.ms (i : Int)) (rd s.ms (i : Int) - Int.tdiv (rd s.ms (i : Int)) 2)) (by omega)
  rw [merS]
  simp only [refS]
  rw [a1, m1, m2, t1, t2, show rd s.ms (i : Int) - Int.tdiv (rd s.ms (i : Int)) 2 + Int.tdiv (rd s.ms (i : Int)) 2 = rd s.ms (i : Int) by omega, a2,
    show outA (rd s.ts (i : Int)) (rd s.ms (i : Int)) (rd s.ms (i : Int) - Int.tdiv (rd s.ms (i : Int)) 2) + (rd s.ts (i : Int) - outA (rd s.ts (i : Int)) (rd s.ms (i : Int)) (rd s.ms (i : Int) - Int.tdiv (rd s.ms (i : Int)) 2)) = rd s.ts (i : Int) by omega, a3]
theorem may_split {ro : Int} {l : List Ce} {i : Nat} (h : isBal ro l = true) (hi : i < l.length) (hl : (gc l i).l < 4) : mayB (splitC l i) i = true := by
  obtain ⟨hm, hb⟩ := isBal_iff.1 h
  have hx := meshOk_all hm _ (gc_mem hi)
  have k0 := kid_ok hx hl 0 (by omega)
  have k1 := kid_ok hx hl 1 (by omega)
  have g0 : gc (splitC l i) i = kid (gc l i) 0 := by rw [gc_split hi, if_neg (by omega), if_pos rfl]
  have g1 : gc (splitC l i) (i + 1) = kid (gc l i) 1 := by rw [gc_split hi, if_neg (by omega), if_neg (by omega), if_pos rfl]
  rw [mayB, g0, g1, sib_kids hx hl k0 k1, Bool.true_and, Bool.and_eq_true, splitC_length hi]
  constructor
  · by_cases h0 : 0 < i
    · have g2 : gc (splitC l i) (i - 1) = gc l (i - 1) := by rw [gc_split hi, if_pos (by omega)]
      have := hb (i - 1) (by omega)
      rw [show i - 1 + 1 = i by omega] at this
      rw [g2, decide_eq_false (show ¬ (gc l (i - 1)).l > (kid (gc l i) 0).l by show ¬ (gc l (i - 1)).l > (gc l i).l + 1; omega)]
      simp
    · rw [decide_eq_false h0]; rfl
  · by_cases h0 : i + 2 < l.length + 1
    · have g2 : gc (splitC l i) (i + 2) = gc l (i + 1) := by rw [gc_split hi, if_neg (by omega), if_neg (by omega), if_neg (by omega)]; rfl
      have := hb i (by omega)
      rw [g2, decide_eq_false (show ¬ (gc l (i + 1)).l > (kid (gc l i) 0).l by show ¬ (gc l (i + 1)).l > (gc l i).l + 1; omega)]
      simp
    · rw [decide_eq_false h0]; rfl
end Go.Proofs.Ytaidbdogolhnjaa.U
