/- What is compressed is restored: plain laws. -/
import Derived.Test.YtakcljnimggjjaaDi
import Derived.Test.YtakcljnimggjjaaCo
set_option linter.unusedVariables false
set_option linter.unusedSimpArgs false
namespace Go.Proofs.Ytakcljnimggjjaa.U
open Go.RowKit Go.Lib Go.Proofs.YtakcljnimggjjaaW.PrintWords

/-- the differences that a code tells -/
def ex : List Int → List Int
  | n :: s :: t => List.replicate n.toNat s ++ ex t
  | _ => []
theorem ex_append : ∀ (a b : List Int), a.length % 2 = 0 → ex (a ++ b) = ex a ++ ex b
  | [], b, _ => by simp [ex]
  | [x], b, h => by simp at h
  | n :: s :: t, b, h => by
    have := ex_append t b (by simp at h; omega)
    simp [ex, this, List.append_assoc]
theorem ex_two (n s : Int) : ex [n, s] = List.replicate n.toNat s := by simp [ex]
/-- a list of even length that is not empty ends in a pair -/
theorem ends_pair (out : List Int) (h0 : 0 < out.length) (h : out.length % 2 = 0) : ∃ pre c s, out = pre ++ [c, s] ∧ pre.length = out.length - 2 := by
  refine ⟨out.take (out.length - 2), rd out ((out.length - 2 : Nat) : Int), rd out ((out.length - 1 : Nat) : Int), ?_, by simp⟩
  apply List.ext_getElem
  · simp; omega
  · intro i h1 h2
    rw [List.getElem_append]
    split
    · simp
    · rename_i hi
      simp at hi
      obtain e | e : i = out.length - 2 ∨ i = out.length - 1 := by omega
      · subst e
        simp [rd_nat, List.getD_eq_getElem?_getD, List.getElem?_eq_getElem h1]
      · subst e
        have : out.length - 1 - (out.length - 2) = 1 := by omega
        simp [this, rd_nat, List.getD_eq_getElem?_getD, List.getElem?_eq_getElem h1]
theorem ex_compAdd (out : List Int) (d : Int) (h : out.length % 2 = 0) (hc : 0 < out.length → 0 ≤ rd out ((out.length - 2 : Nat) : Int)) : ex (compAdd out d) = ex out ++ [d] := by
  by_cases hz : 0 < out.length ∧ rd out ((out.length - 1 : Nat) : Int) = d
  · rw [compAdd_set hz.1 hz.2]
    have hc' := hc hz.1
    obtain ⟨pre, c, s, e, hp⟩ := ends_pair out hz.1 h
    have hpe : pre.length % 2 = 0 := by omega
    have e1 : rd out ((out.length - 2 : Nat) : Int) = c := by
      rw [← hp, e, rd_app, if_neg (by omega), Nat.sub_self]; simp [rd]
    have e2 : rd out ((out.length - 1 : Nat) : Int) = s := by
      rw [show out.length - 1 = pre.length + 1 by omega, e, rd_app, if_neg (by omega), Nat.add_sub_cancel_left]; simp [rd]
    rw [e1] at hc' ⊢
    rw [← hp]
    obtain rfl : s = d := by rw [← e2]; exact hz.2
    clear e1 e2 hp hz hc h
    subst e
    rw [List.set_append_right _ _ (Nat.le_refl _), Nat.sub_self]
    simp only [List.set_cons_zero]
    rw [ex_append _ _ hpe, ex_append _ _ hpe, ex_two, ex_two, List.append_assoc, show (c + 1).toNat = c.toNat + 1 by omega, List.replicate_succ']
  · rw [compAdd_app hz, ex_append _ _ h, ex_two]
    rfl
/-- the running sums -/
def sums : Int → List Int → List Int
  | _, [] => []
  | x, d :: t => (x + d) :: sums (x + d) t
def endOf : Int → List Int → Int
  | x, [] => x
  | x, d :: t => endOf (x + d) t
theorem sums_append : ∀ (a b : List Int) (x : Int), sums x (a ++ b) = sums x a ++ sums (endOf x a) b
  | [], b, x => rfl
  | d :: t, b, x => by simp [sums, endOf, sums_append t b (x + d)]
theorem endOf_append : ∀ (a b : List Int) (x : Int), endOf x (a ++ b) = endOf (endOf x a) b
  | [], b, x => rfl
  | d :: t, b, x => by simp [endOf, endOf_append t b (x + d)]
theorem sums_length : ∀ (a : List Int) (x : Int), (sums x a).length = a.length
  | [], x => rfl
  | d :: t, x => by simp [sums, sums_length t (x + d)]
theorem inner_ok (s q : Int) : ∀ (k : Nat) (x : Int) (o : List Int), (∀ y ∈ sums x (List.replicate k s), inR y 0 10000000 = true) → inner s q k x o = some (endOf x (List.replicate k s), o ++ (sums x (List.replicate k s)).map (q * ·))
  | 0, x, o, _ => by simp [inner, endOf, sums]
  | k + 1, x, o, h => by
    rw [inner, List.replicate_succ] at *
    rw [if_pos (h (x + s) (by simp [sums])), inner_ok s q k (x + s) _ (fun y hy => h y (by simp [sums, hy]))]
    simp [endOf, sums]
theorem drop_pair (code : List Int) (j : Nat) (h : j + 1 < code.length) : code.drop j = rd code (j : Int) :: rd code ((j + 1 : Nat) : Int) :: code.drop (j + 2) := by
  rw [List.drop_eq_getElem_cons (by omega), List.drop_eq_getElem_cons (i := j + 1) h, rd_nat, rd_nat, List.getD_eq_getElem?_getD, List.getD_eq_getElem?_getD, List.getElem?_eq_getElem h, List.getElem?_eq_getElem (by omega)]
  rfl
theorem decode_ok (code : List Int) (q : Int) (hc : ∀ i, i % 2 = 0 → i + 1 < code.length → 1 ≤ rd code ((i : Nat) : Int)) (hs : ∀ i, i % 2 = 0 → 0 < i → i + 1 < code.length → rd code ((i + 1 : Nat) : Int) ≠ rd code ((i - 1 : Nat) : Int)) (ht : ∀ i, i % 2 = 0 → i + 1 < code.length → inR (rd code ((i + 1 : Nat) : Int)) (-10000000) 10000000 = true) :
    ∀ (p j : Nat) (x : Int) (o : List Int), j % 2 = 0 → j + 2 * p = code.length → o.length + (ex (code.drop j)).length ≤ 1000 → (∀ y ∈ sums x (ex (code.drop j)), inR y 0 10000000 = true) → decode code q p j x o = some (o ++ (sums x (ex (code.drop j))).map (q * ·))
  | 0, j, x, o, hj, hp, hl, hy => by
    rw [List.drop_of_length_le (by omega)]
    simp [decode, ex, sums]
  | p + 1, j, x, o, hj, hp, hl, hy => by
    have hlt : j + 1 < code.length := by omega
    have h1 := hc j hj hlt
    rw [drop_pair code j hlt, ex] at hl hy ⊢
    rw [List.length_append, List.length_replicate] at hl
    rw [sums_append] at hy ⊢
    have hr : runOk code j o = true := by
      rw [runOk, Bool.and_eq_true, Bool.and_eq_true, inR_iff]
      refine ⟨⟨⟨h1, by omega⟩, ?_⟩, ht j hj hlt⟩
      rcases Nat.eq_zero_or_pos j with h0 | h0
      · rw [decide_eq_false (by omega)]; rfl
      · rw [beq_eq_false_iff_ne.2 (hs j hj h0 hlt), Bool.and_false]; rfl
    rw [decode, if_pos hr, inner_ok _ _ _ _ _ (fun y h => hy y (List.mem_append_left _ h)), Option.bind_some]
    rw [decode_ok code q hc hs ht p (j + 2) _ _ (by omega) (by omega) (by rw [List.length_append, List.length_map, sums_length, List.length_replicate]; omega) (fun y h => hy y (List.mem_append_right _ h))]
    rw [List.map_append, List.append_assoc]
/-- what decode asks of a code -/
structure CodeOk (code : List Int) : Prop where
  even : code.length % 2 = 0
  cnt : ∀ i, i % 2 = 0 → i + 1 < code.length → 1 ≤ rd code ((i : Nat) : Int)
  alt : ∀ i, i % 2 = 0 → 0 < i → i + 1 < code.length → rd code ((i + 1 : Nat) : Int) ≠ rd code ((i - 1 : Nat) : Int)
  stp : ∀ i, i % 2 = 0 → i + 1 < code.length → inR (rd code ((i + 1 : Nat) : Int)) (-10000000) 10000000 = true
theorem CodeOk.nil : CodeOk [] := ⟨rfl, fun i _ h => by simp at h, fun i _ _ h => by simp at h, fun i _ h => by simp at h⟩
theorem CodeOk.add {out : List Int} (h : CodeOk out) (d : Int) (hd : -10000000 ≤ d ∧ d ≤ 10000000) : CodeOk (compAdd out d) := by
  obtain ⟨he, hc, ha, ht⟩ := h
  by_cases hz : 0 < out.length ∧ rd out ((out.length - 1 : Nat) : Int) = d
  · rw [compAdd_set hz.1 hz.2]
    have h2 := hc (out.length - 2) (by omega) (by omega)
    refine ⟨by rw [List.length_set]; exact he, fun i hi h => ?_, fun i hi h0 h => ?_, fun i hi h => ?_⟩
    · rw [List.length_set] at h
      rw [rd_set _ _ _ _ (by omega)]
      have := hc i hi h
      split <;> omega
    · rw [List.length_set] at h
      rw [rd_set _ _ _ _ (by omega), rd_set _ _ _ _ (by omega), if_neg (by omega), if_neg (by omega)]
      exact ha i hi h0 h
    · rw [List.length_set] at h
      rw [rd_set _ _ _ _ (by omega), if_neg (by omega)]
      exact ht i hi h
  · rw [compAdd_app hz]
    refine ⟨by simp; omega, fun i hi h => ?_, fun i hi h0 h => ?_, fun i hi h => ?_⟩
    · simp at h
      rw [rd_app]
      split
      · exact hc i hi (by omega)
      · rw [show i - out.length = 0 by omega]; simp [rd]
    · simp at h
      rw [rd_app, rd_app]
      by_cases hl : i + 1 < out.length
      · rw [if_pos hl, if_pos (by omega)]; exact ha i hi h0 hl
      · rw [if_neg hl, if_pos (by omega), show i + 1 - out.length = 1 by omega, show i - 1 = out.length - 1 by omega]
        intro e
        exact hz ⟨by omega, by rw [← e]; simp [rd]⟩
    · simp at h
      rw [rd_app]
      split
      · exact ht i hi (by omega)
      · rw [show i + 1 - out.length = 1 by omega]
        exact inR_yes (by simp [rd]; omega)
/-- the quantized numbers from place j on -/
def quant (l : List Int) (q : Int) : Nat → Nat → List Int
  | 0, _ => []
  | r + 1, j => divNear (rd l ((j : Nat) : Int)) q :: quant l q r (j + 1)
theorem comp_ok (l : List Int) (q : Int) (hq : 1 ≤ q) : ∀ (r j : Nat) (x : Int) (out : List Int), j + r ≤ l.length → (∀ i, i < l.length → 0 ≤ rd l ((i : Nat) : Int) ∧ rd l ((i : Nat) : Int) ≤ 10000000) → (0 ≤ x ∧ x ≤ 10000000) → CodeOk out → endOf 0 (ex out) = x →
    ∃ code, comp l q r j x out = some code ∧ CodeOk code ∧ sums 0 (ex code) = sums 0 (ex out) ++ quant l q r j ∧ (ex code).length = (ex out).length + r
  | 0, j, x, out, hj, hl, hx, ho, he => ⟨out, rfl, ho, by simp [quant], by omega⟩
  | r + 1, j, x, out, hj, hl, hx, ho, he => by
    have h1 := hl j (by omega)
    have h2 := qz_range (rd l (j : Int)) q h1 hq
    have h3 := ex_compAdd out (divNear (rd l (j : Int)) q - x) ho.even (fun h => by have := ho.cnt (out.length - 2) (by have := ho.even; omega) (by have := ho.even; omega); omega)
    have h4 := ho.add (divNear (rd l (j : Int)) q - x) (by omega)
    have h5 : endOf 0 (ex (compAdd out (divNear (rd l (j : Int)) q - x))) = divNear (rd l (j : Int)) q := by
      rw [h3, endOf_append, he]; simp only [endOf]; omega
    obtain ⟨code, e1, e2, e3, e4⟩ := comp_ok l q hq r (j + 1) _ _ (by omega) hl h2 h4 h5
    refine ⟨code, by rw [comp, if_pos (inR_yes h1)]; exact e1, e2, ?_, ?_⟩
    · rw [e3, h3, sums_append, he, quant, List.append_assoc]
      congr 1
      simp only [sums, List.cons_append, List.nil_append]
      rw [show x + (divNear (rd l (j : Int)) q - x) = divNear (rd l (j : Int)) q by omega]
    · rw [e4, h3, List.length_append, List.length_singleton]; omega
theorem quant_length (l : List Int) (q : Int) : ∀ r j, (quant l q r j).length = r
  | 0, j => rfl
  | r + 1, j => by rw [quant, List.length_cons, quant_length l q r (j + 1)]
theorem quant_in (l : List Int) (q : Int) (hq : 1 ≤ q) (hl : ∀ i, i < l.length → 0 ≤ rd l ((i : Nat) : Int) ∧ rd l ((i : Nat) : Int) ≤ 10000000) : ∀ r j, j + r ≤ l.length → ∀ y ∈ quant l q r j, inR y 0 10000000 = true
  | 0, j, _, y, hy => by simp [quant] at hy
  | r + 1, j, hj, y, hy => by
    rw [quant, List.mem_cons] at hy
    rcases hy with rfl | hy
    · exact inR_yes (qz_range _ q (hl j (by omega)) hq)
    · exact quant_in l q hq hl r (j + 1) (by omega) y hy
/-- What is compressed is restored, quantized. -/
theorem restored (l : List Int) (q : Int) (hq : inR q 1 1000000 = true) (hn : l.length ≤ 1000) (hl : ∀ i, i < l.length → 0 ≤ rd l ((i : Nat) : Int) ∧ rd l ((i : Nat) : Int) ≤ 10000000) (hc : ∀ code, comp l q l.length 0 0 [] = some code → code.length ≤ 2000) :
    (compress l q).2 = true ∧ decompress (compress l q).1 q = ((quant l q l.length 0).map (q * ·), true) := by
  have hq1 := inR_iff.1 hq
  obtain ⟨code, e1, e2, e3, e4⟩ := comp_ok l q hq1.1 l.length 0 0 [] (by omega) hl (by omega) CodeOk.nil rfl
  have e : compress l q = (code, true) := by rw [compress, if_pos ⟨hq, hn⟩, e1]; rfl
  rw [e]
  refine ⟨rfl, ?_⟩
  have e3' : sums 0 (ex code) = quant l q l.length 0 := by rw [e3]; simp [ex, sums]
  have e4' : (ex code).length = l.length := by rw [e4]; simp [ex]
  have hd := decode_ok code q e2.cnt e2.alt e2.stp (code.length / 2) 0 0 [] rfl (by have := e2.even; omega) (by simp; omega) (by rw [List.drop_zero, e3']; exact quant_in l q hq1.1 hl l.length 0 (by omega))
  rw [List.drop_zero, e3', List.nil_append] at hd
  rw [decompress, if_pos ⟨hq, e2.even, hc code e1⟩, hd]
  rfl
end Go.Proofs.Ytakcljnimggjjaa.U
