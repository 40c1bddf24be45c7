/- What the law FnCompressed needs, in plain Lean. -/
import Derived.Test.YtakcljnimggjjaaPc
import Derived.Test.YtakcljnimggjjaaCs
import Derived.Test.YtakcljnimggjjaaEo
set_option linter.unusedVariables false
set_option linter.unusedSimpArgs false
namespace Go.Proofs.Ytakcljnimggjjaa.U
open Go.RowKit Go.Lib Go.Proofs.YtakcljnimggjjaaW.PrintWords

theorem comp_same (l m : List Int) (q : Int) (hl : ∀ i, i < l.length → inR (rd l ((i : Nat) : Int)) 0 10000000 = true) (hm : ∀ i, i < l.length → inR (rd m ((i : Nat) : Int)) 0 10000000 = true) (hd : ∀ i, i < l.length → divNear (rd l ((i : Nat) : Int)) q = divNear (rd m ((i : Nat) : Int)) q) :
    ∀ (r j : Nat) (x : Int) (out : List Int), j + r ≤ l.length → comp l q r j x out = comp m q r j x out
  | 0, j, x, out, _ => rfl
  | r + 1, j, x, out, hj => by
    rw [comp, comp, if_pos (hl j (by omega)), if_pos (hm j (by omega)), hd j (by omega), comp_same l m q hl hm hd r (j + 1) _ _ (by omega)]
theorem divNear_mul (b x : Int) (hb : 1 ≤ b) : divNear (b * x) b = x := by
  unfold divNear
  have e : 2 * (b * x) + b = b + 2 * b * x := by rw [Int.mul_assoc]; omega
  rw [e, Int.add_mul_ediv_left _ _ (by omega), Int.ediv_eq_zero_of_lt (by omega) (by omega)]
  omega
theorem quant_rd (l : List Int) (q : Int) : ∀ (r j i : Nat), i < r → rd (quant l q r j) ((i : Nat) : Int) = divNear (rd l ((j + i : Nat) : Int)) q
  | 0, j, i, h => by omega
  | r + 1, j, i, h => by
    rw [quant]
    rcases i with _ | i
    · simp [rd]
    · have := quant_rd l q r (j + 1) i (by omega)
      rw [rd_nat] at this ⊢
      rw [List.getD_cons_succ, this, show j + 1 + i = j + (i + 1) by omega]
/-- the restored list -/
def backL (l : List Int) (q : Int) : List Int := (quant l q l.length 0).map (q * ·)
theorem backL_length (l : List Int) (q : Int) : (backL l q).length = l.length := by rw [backL, List.length_map, quant_length]
theorem backL_rd (l : List Int) (q : Int) (i : Nat) (h : i < l.length) : rd (backL l q) ((i : Nat) : Int) = q * divNear (rd l ((i : Nat) : Int)) q := by
  have h1 := quant_rd l q l.length 0 i h
  rw [Nat.zero_add] at h1
  rw [← h1, rd_nat, rd_nat, backL, List.getD_eq_getElem?_getD, List.getD_eq_getElem?_getD, List.getElem?_map, List.getElem?_eq_getElem (by rw [quant_length]; exact h)]
  rfl
theorem backL_one (l : List Int) : backL l 1 = l := by
  apply List.ext_getElem
  · exact backL_length l 1
  · intro i h1 h2
    have := backL_rd l 1 i h2
    rw [Int.one_mul, show rd l ((i : Nat) : Int) = 1 * rd l ((i : Nat) : Int) by omega, divNear_mul _ _ (by omega), rd_nat, rd_nat, List.getD_eq_getElem?_getD, List.getD_eq_getElem?_getD, List.getElem?_eq_getElem h1, List.getElem?_eq_getElem h2] at this
    exact this
theorem back_near (x q : Int) (hx : 0 ≤ x ∧ x ≤ 9000) (hq : 1 ≤ q ∧ q ≤ 400) : 0 ≤ q * divNear x q ∧ q * divNear x q ≤ 9200 ∧ -q ≤ 2 * (x - q * divNear x q) ∧ 2 * (x - q * divNear x q) ≤ q := by
  have h1 := divNear_near x q hq.1
  have h2 := (qz_range x q (by omega) hq.1).1
  have h3 : 0 ≤ q * divNear x q := Int.mul_nonneg (by omega) h2
  omega
/-- All that the law asks of a list of masses and a quantum. -/
theorem compressed_facts (l : List Int) (n : Nat) (q : Int) (hn : l.length = n) (hn2 : 1 ≤ n ∧ n ≤ 20) (hl : ∀ x ∈ l, 0 ≤ x ∧ x ≤ 9000) (hq : 1 ≤ q ∧ q ≤ 400) :
    ∃ C D X e z, compress l q = (C, true) ∧ decompress C q = (X, true) ∧ X.length = n ∧ compress l 1 = (D, true) ∧ decompress D 1 = (l, true) ∧ (compress X q).1 = C ∧ (compress X q).2 = true ∧ gapMost l X n = e ∧ (0 ≤ e ∧ 2 * e ≤ q) ∧ Bd l 1000000000000000 ∧ Bd X 1000000000000000 ∧ inR (rd l 0) 0 10000000 = true ∧ inR q 1 1000000 = true ∧ divNear (rd l 0) q = z ∧ (0 ≤ z ∧ z ≤ 9200) ∧ rd X 0 = q * z := by
  have hr : ∀ i, i < l.length → 0 ≤ rd l ((i : Nat) : Int) ∧ rd l ((i : Nat) : Int) ≤ 9000 := fun i hi => by
    rw [rd_nat, List.getD_eq_getElem?_getD, List.getElem?_eq_getElem hi]
    exact hl _ (List.getElem_mem hi)
  have hr2 : ∀ i, i < l.length → 0 ≤ rd l ((i : Nat) : Int) ∧ rd l ((i : Nat) : Int) ≤ 10000000 := fun i hi => by have := hr i hi; omega
  have hlen : ∀ q code, comp l q l.length 0 0 [] = some code → code.length ≤ 2000 := fun q code h => by
    have := comp_len l q _ _ _ _ code h
    simp at this
    omega
  have a1 := restored l q (inR_yes (by omega)) (by omega) hr2 (hlen q)
  have a2 := restored l 1 (inR_yes (by omega)) (by omega) hr2 (hlen 1)
  have b1 : ∀ i, i < l.length → _ := fun i hi => back_near (rd l ((i : Nat) : Int)) q (hr i hi) hq
  have hX : ∀ i, i < l.length → inR (rd (backL l q) ((i : Nat) : Int)) 0 10000000 = true := fun i hi => by
    rw [backL_rd l q i hi]
    have := b1 i hi
    exact inR_yes (by omega)
  have hs : compress (backL l q) q = compress l q := by
    rw [compress, compress, backL_length]
    rw [comp_same l (backL l q) q (fun i hi => inR_yes (hr2 i hi)) hX (fun i hi => by rw [backL_rd l q i hi, divNear_mul _ _ hq.1]) l.length 0 0 [] (by omega)]
  have h0 := b1 0 (by omega)
  have hz := qz_range (rd l ((0 : Nat) : Int)) q (hr2 0 (by omega)) hq.1
  have hg := gapMost_range l (backL l q) (q / 2) (by omega) n (fun j hj => by
    have := b1 j (by omega)
    rw [backL_rd l q j (by omega)]
    omega)
  refine ⟨(compress l q).1, (compress l 1).1, backL l q, _, _, by rw [← a1.1], a1.2, by rw [backL_length]; exact hn, by rw [← a2.1], ?_, by rw [hs], by rw [hs]; exact a1.1, rfl, by omega, ?_, ?_, ?_, inR_yes (by omega), rfl, ?_, ?_⟩
  · have := a2.2
    rw [show (quant l 1 l.length 0).map (1 * ·) = l from backL_one l] at this
    exact this
  · exact ⟨fun i hi => by have := hr i hi; omega⟩
  · exact ⟨fun i hi => by rw [backL_length] at hi; rw [backL_rd l q i hi]; have := b1 i hi; omega⟩
  · exact inR_yes (hr2 0 (by omega))
  · have : divNear (rd l 0) q ≤ q * divNear (rd l 0) q := by
      have h := Int.mul_le_mul_of_nonneg_right hq.1 hz.1
      rw [Int.one_mul] at h
      exact h
    exact ⟨hz.1, Int.le_trans this h0.2.1⟩
  · exact backL_rd l q 0 (by omega)
end Go.Proofs.Ytakcljnimggjjaa.U
