/- Loops of printed functions, in general. -/
import Derived.Test.YtjpompdnehpkfaaWMore
set_option linter.unusedVariables false
set_option linter.unusedSimpArgs false
namespace Go.Proofs.Ytjpompdnehpkfaa.Pu
open Go.RowKit Go.Proofs.YtjpompdnehpkfaaW.PrintWords

theorem w64 {x : Int} (h1 : -9223372036854775808 ≤ x) (h2 : x ≤ 9223372036854775807) : wrap64 x = x := by
  simp only [wrap64]; omega
theorem loop_ev {β : Type} (g : Nat → Int → Option β) (n : Nat) (r : β) (hend : Ev (fun k => g k (n : Int)) r) (hstep : ∀ i : Nat, i < n → Ev (fun k => g k ((i + 1 : Nat) : Int)) r → Ev (fun k => g k (i : Int)) r) :
    ∀ d i : Nat, i + d = n → Ev (fun k => g k (i : Int)) r
  | 0, i, h => by
    obtain rfl : i = n := by omega
    exact hend
  | d + 1, i, h => hstep i (by omega) (loop_ev g n r hend hstep d (i + 1) (by omega))
theorem copy_to {α β : Type} (g : Nat → List β → Int → Option (List β)) (x0 : List α) (cv : α → β) (hend : ∀ x3 : List β, x3.length = x0.length → Ev (fun k => g k x3 (x0.length : Int)) x3)
    (hstep : ∀ (i : Nat) (x3 : List β) (r : List β) (h : i < x0.length), x3.length = x0.length → Ev (fun k => g k (x3.set i (cv x0[i])) ((i + 1 : Nat) : Int)) r → Ev (fun k => g k x3 (i : Int)) r) :
    ∀ (d i : Nat), i + d = x0.length → ∀ x3 : List β, x3.length = x0.length → (∀ j, j < i → x3[j]? = (x0.map cv)[j]?) → Ev (fun k => g k x3 (i : Int)) (x0.map cv)
  | 0, i, hi, x3, hl, he => by
    have : x3 = x0.map cv := by
      apply List.ext_getElem?
      intro j
      by_cases hj : j < i
      · exact he j hj
      · rw [List.getElem?_eq_none (by omega), List.getElem?_eq_none (by simp; omega)]
    rw [← this, show (i : Int) = (x0.length : Int) by omega]
    exact hend x3 hl
  | d + 1, i, hi, x3, hl, he => hstep i x3 _ (by omega) hl (copy_to g x0 cv hend hstep d (i + 1) (by omega) _ (by simpa using hl) (by
      intro j hj
      rw [List.getElem?_set]
      by_cases hji : i = j
      · subst hji
        rw [if_pos rfl, if_pos (by omega), List.getElem?_map, List.getElem?_eq_getElem (by omega)]
        rfl
      · rw [if_neg hji]
        exact he j (by omega)))
theorem copy_ev {α β : Type} (g : Nat → List β → Int → Option (List β)) (x0 : List α) (cv : α → β) (hend : ∀ x3 : List β, x3.length = x0.length → Ev (fun k => g k x3 (x0.length : Int)) x3)
    (hstep : ∀ (i : Nat) (x3 : List β) (r : List β) (h : i < x0.length), x3.length = x0.length → Ev (fun k => g k (x3.set i (cv x0[i])) ((i + 1 : Nat) : Int)) r → Ev (fun k => g k x3 (i : Int)) r)
    (x3 : List β) (h : x3.length = x0.length) : Ev (fun k => g k x3 0) (x0.map cv) :=
  copy_to g x0 cv hend hstep x0.length 0 (by omega) x3 h (fun j hj => by omega)
theorem getD_at {α : Type} (l : List α) (z : α) (i : Nat) (h : i < l.length) : l.getD ((i : Int)).toNat z = l[i] := by
  rw [Int.toNat_natCast, List.getD_eq_getElem?_getD, List.getElem?_eq_getElem h]
  rfl
theorem rd_at (l : List Int) (i : Nat) (h : i < l.length) : rd l (i : Int) = l[i] := getD_at l 0 i h
end Go.Proofs.Ytjpompdnehpkfaa.Pu
