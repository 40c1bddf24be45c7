
/- The library's slices.IndexFunc and slices.ContainsFunc over ints: what they answer, for every function value that answers by a plain predicate. -/
import Derived.Test.YtcdibjneoemidaaG1
import Derived.Shelf.Abstract
import Derived.Deep.LoopGhost
set_option linter.unusedVariables false
set_option linter.unusedSimpArgs false
namespace Go.Proofs.Ytcdibjneoemidaa.U
open Go.RowKit Go.Lib Go.Proofs.YtcdibjneoemidaaW.PrintWords

/-- The function value g, with what it has captured, answers by p, in w and in whatever world has come of it. -/
structure PredI (g : Nat) (lb : Array Value) (p : Int → Bool) (w : World) : Prop where
  mk :: (out : ∀ W x, Drawn0 w W → Calls Try.prog g (#[.int .i64 x] ++ lb) W fun e W' => e = .returned (.bool (p x)) ∧ Drawn0 W W')
theorem Drawn0.trans' {a b c : World} (h : Drawn0 a b) (k : Drawn0 b c) : Drawn0 a c := by
  obtain ⟨n, rfl⟩ := k
  exact h.step n
theorem any_of_at (l : List Int) (p : Int → Bool) (k : Nat) (hk : k < l.length) (h : p (rd l (k : Int)) = true) : l.any p = true := by
  rw [List.any_eq_true]
  exact ⟨l[k], List.getElem_mem hk, by rw [rd_nat, List.getD_eq_getElem?_getD, List.getElem?_eq_getElem hk] at h; exact h⟩
theorem none_of_all (l : List Int) (p : Int → Bool) (n : Nat) (hn : l.length = n) (h : ∀ j, j < n → p (rd l (j : Int)) = false) : l.any p = false := by
  rw [List.any_eq_false]
  intro x hx
  obtain ⟨j, hj, rfl⟩ := List.getElem_of_mem hx
  have := h j (by omega)
  rw [rd_nat, List.getD_eq_getElem?_getD, List.getElem?_eq_getElem hj] at this
  simpa using this
theorem not_any_not (l : List Int) (p : Int → Bool) : (!(l.any fun x => !p x)) = l.all p := by
  induction l with
  | nil => rfl
  | cons x l ih => simp [List.any_cons, List.all_cons, ← ih]
theorem all_at (l : List Int) (p : Int → Bool) (n : Nat) (hn : l.length = n) (h : ∀ j, j < n → p (rd l (j : Int)) = true) : l.all p = true := by
  rw [List.all_eq_true]
  intro x hx
  obtain ⟨j, hj, rfl⟩ := List.getElem_of_mem hx
  have := h j (by omega)
  rwa [rd_nat, List.getD_eq_getElem?_getD, List.getElem?_eq_getElem hj] at this
theorem not_all_at (l : List Int) (p : Int → Bool) (k : Nat) (hk : k < l.length) (h : p (rd l (k : Int)) = false) : l.all p = false := by
  rw [← Bool.not_eq_true, List.all_eq_true]
  intro hh
  have := hh l[k] (List.getElem_mem hk)
  rw [rd_nat, List.getD_eq_getElem?_getD, List.getElem?_eq_getElem hk] at h
  simp at h
  rw [this] at h
  cases h
set_option maxHeartbeats 1000000 in
theorem IndexFunc (A : Option Addr) (n c : Nat) (l : List Int) (g : Nat) (lb : Array Value) (p : Int → Bool) (w : World) (r : RI w A n l) (hp : PredI g lb p w)
    (eg : ∀ args w, (callFunc g args).run Try.prog w = .ok (.enter g args) w) :
    Calls Try.prog 55 #[.slice A n c, .func (.func g) #[] lb] w fun e w' => (∃ i : Int, e = .returned (.int .i64 i) ∧ decide (0 ≤ i) = l.any p) ∧ Drawn0 w w' := by
  have hm := r.max
  have hl := hid r.len
  go_enter Try.func55, Try.ntmps55
  go_wp2
  go_loopw [8] (fun i wr => ∃ k : Nat, k ≤ n ∧ i = .int .i64 k ∧ Hid (∀ j, j < k → p (rd l (j : Int)) = false) ∧ Hid (Drawn0 w wr)) (fun i _ => n - (intOf i).toNat)
  case atStart => exact ⟨0, by omega, rfl, hid (fun j hj => by omega), hid (Drawn0.refl _)⟩
  case round =>
    obtain ⟨k, hk, rfl, hE, hD⟩ := hrel
    by_cases hlt : k < n
    · obtain ⟨ad, rfl, hc⟩ := (r.dr hD.out).nat k hlt
      go_wp2_with fail
      refine (hp.out _ (rd l (k : Int)) hD.out).mono ?_
      rintro e W' ⟨rfl, d⟩
      cases hpx : p (rd l (k : Int)) with
      | true =>
        have HP := hid hpx; clear hpx
        go_wp2
        go_ret
        refine ⟨⟨_, rfl, ?_⟩, Drawn0.trans' hD.out d⟩
        rw [any_of_at l p k (by rw [hl.out]; exact hlt) HP.out]
        simp
      | false =>
        have HP := hid hpx; clear hpx
        go_wp2
        go_roundw
        case rel => exact ⟨k + 1, by omega, by go_num, hid (fun j hj => by
          by_cases e : j = k
          · rw [e]; exact HP.out
          · exact hE.out j (by omega)), hid (Drawn0.trans' hD.out d)⟩
        case measure => simp [intOf]; omega
    · obtain rfl : k = n := by omega
      go_wp2
      go_ret
      refine ⟨⟨_, rfl, ?_⟩, hD.out⟩
      rw [none_of_all l p k hl.out hE.out]
      rfl
theorem ContainsFunc (A : Option Addr) (n c : Nat) (l : List Int) (g : Nat) (lb : Array Value) (p : Int → Bool) (w : World) (r : RI w A n l) (hp : PredI g lb p w)
    (eg : ∀ args w, (callFunc g args).run Try.prog w = .ok (.enter g args) w) :
    Calls Try.prog 44 #[.slice A n c, .func (.func g) #[] lb] w fun e w' => e = .returned (.bool (l.any p)) ∧ Drawn0 w w' := by
  go_enter Try.func44, Try.ntmps44
  go_wp2_with fail
  refine (IndexFunc A n c l g lb p w r hp eg).mono ?_
  rintro e w' ⟨⟨i, rfl, hi⟩, d⟩
  have HI := hid hi; clear hi
  go_wp2
  go_ret
  exact ⟨ret_bool HI.out, d⟩
end Go.Proofs.Ytcdibjneoemidaa.U
