
/- The exchange, plainly. -/
import Derived.Test.YtcdibjneoemidaaKm
import Derived.Test.YtcdibjneoemidaaCf
set_option linter.unusedVariables false
set_option linter.unusedSimpArgs false
namespace Go.Proofs.Ytcdibjneoemidaa.U
open Go.RowKit Go.Lib Go.Proofs.YtcdibjneoemidaaW.PrintWords

def stepB (vs : List Int) (q : Int) (x : Ib) : Ib := delS x ⟨q, rd vs q⟩
def roundS (vs : List Int) (s : Ib) : Ib := (misS s (vs.length : Int)).foldr (stepB vs) s
/-- one number of the script -/
def sendN (vs : List Int) (s : Ib) (k : Nat) : Ib := if k % 2 = 0 ∧ k / 2 < vs.length then delS s ⟨((k / 2 : Nat) : Int), rd vs ((k / 2 : Nat) : Int)⟩ else s
/-- behind j numbers of the script -/
def sentS (vs sc : List Int) : Nat → Ib
  | 0 => ⟨[], []⟩
  | j + 1 => sendN vs (sentS vs sc j) (rd sc (j : Int)).toNat
def exR (vs : List Int) : Nat → Ib → Nat → Ib × Nat
  | 0, s, r => (s, r)
  | f + 1, s, r => if s.g.length < vs.length then exR vs f (roundS vs s) (r + 1) else (s, r)
def exOk (vs sc : List Int) : Bool := decide (vs.length ≤ 100) && decide (sc.length ≤ 1000) && sc.all fun x => decide (0 ≤ x)
/-- what Exchange answers -/
def exS (vs sc : List Int) : List Int × Int := if exOk vs sc = true then ((exR vs vs.length (sentS vs sc sc.length) 0).1.g, ((exR vs vs.length (sentS vs sc sc.length) 0).2 : Int)) else ([], -1)
theorem good_send {vs : List Int} {s : Ib} (h : Good vs s) (hn : vs.length ≤ 1000) (k : Nat) : Good vs (sendN vs s k) := by
  rw [sendN]
  split
  · rename_i c
    exact (good_del h hn _ c.2).1
  · exact h
theorem good_sent (vs sc : List Int) (hn : vs.length ≤ 1000) : ∀ j, Good vs (sentS vs sc j)
  | 0 => Good.zero vs
  | j + 1 => good_send (good_sent vs sc hn j) hn _
theorem good_back {vs : List Int} (hn : vs.length ≤ 1000) : ∀ (L : List Int) (s : Ib), (∀ q ∈ L, ∃ k : Nat, q = (k : Int) ∧ k < vs.length) → Good vs s → Good vs (L.foldr (stepB vs) s) ∧ s.g.length ≤ (L.foldr (stepB vs) s).g.length
  | [], s, _, h => ⟨h, Nat.le_refl _⟩
  | q :: L, s, hq, h => by
    have ih := good_back hn L s (fun x hx => hq x (List.mem_cons_of_mem _ hx)) h
    obtain ⟨k, rfl, hk⟩ := hq q (List.mem_cons_self ..)
    have hd := good_del ih.1 hn k hk
    rw [List.foldr_cons]
    exact ⟨hd.1, Nat.le_trans ih.2 hd.2.1⟩
theorem hasP_low {e : List Pk} {a : Int} (h : okFrom e a = true) : hasP e a = false := by
  cases e with
  | nil => rfl
  | cons b r =>
    rw [okFrom_cons] at h
    rw [hasP_cons, if_neg (by omega)]
    have : b.q ≠ a := by omega
    simp [this]
theorem mis_some {vs : List Int} {s : Ib} (h : Good vs s) (hl : s.g.length < vs.length) : ∃ L, misS s (vs.length : Int) = (s.g.length : Int) :: L := by
  obtain ⟨k, hk⟩ : ∃ k, vs.length - s.g.length = k + 1 := ⟨vs.length - s.g.length - 1, by omega⟩
  rw [misS_nat, hk, misF, hasP_low h.ok]
  exact ⟨_, rfl⟩
theorem mis_none {n : Nat} {s : Ib} (hl : ¬ s.g.length < n) : misS s (n : Int) = [] := by
  rw [misS_nat, show n - s.g.length = 0 by omega]
  rfl
theorem mis_in {vs : List Int} {s : Ib} (h : Good vs s) : ∀ q ∈ misS s (vs.length : Int), ∃ k : Nat, q = (k : Int) ∧ k < vs.length := fun q hq => by
  rw [misS_nat] at hq
  obtain ⟨k, e, _, h2⟩ := misF_mem _ _ _ _ hq
  have := h.gl
  exact ⟨k, e, by omega⟩
theorem round_up {vs : List Int} {s : Ib} (h : Good vs s) (hn : vs.length ≤ 1000) (hl : s.g.length < vs.length) : Good vs (roundS vs s) ∧ s.g.length < (roundS vs s).g.length := by
  obtain ⟨L, hL⟩ := mis_some h hl
  have hin := mis_in h
  rw [hL] at hin
  have hb := good_back hn L s (fun x hx => hin x (List.mem_cons_of_mem _ hx)) h
  have hd := good_del hb.1 hn s.g.length hl
  rw [roundS, hL, List.foldr_cons]
  refine ⟨hd.1, ?_⟩
  by_cases c : (L.foldr (stepB vs) s).g.length = s.g.length
  · exact Nat.lt_of_le_of_lt hb.2 (hd.2.2 c)
  · exact Nat.lt_of_lt_of_le (by have := hb.2; omega) hd.2.1
theorem exR_end {vs : List Int} {s : Ib} {r : Nat} (hl : ¬ s.g.length < vs.length) : ∀ f, exR vs f s r = (s, r)
  | 0 => rfl
  | f + 1 => by rw [exR, if_neg hl]
/-- what an exchange comes to -/
theorem exR_facts {vs : List Int} (hn : vs.length ≤ 1000) : ∀ (f : Nat) (s : Ib) (r : Nat), Good vs s → vs.length - s.g.length ≤ f → Good vs (exR vs f s r).1 ∧ ¬ (exR vs f s r).1.g.length < vs.length ∧ r ≤ (exR vs f s r).2 ∧ (exR vs f s r).2 ≤ r + (vs.length - s.g.length)
  | 0, s, r, h, hf => ⟨h, by show ¬ s.g.length < _; omega, Nat.le_refl _, by show r ≤ _; omega⟩
  | f + 1, s, r, h, hf => by
    rw [exR]
    split
    · rename_i hl
      have hr := round_up h hn hl
      have ih := exR_facts hn f (roundS vs s) (r + 1) hr.1 (by omega)
      exact ⟨ih.1, ih.2.1, by omega, by omega⟩
    · rename_i hl
      exact ⟨h, hl, Nat.le_refl _, by show r ≤ _; omega⟩
theorem exS_len (vs sc : List Int) : (exS vs sc).1.length ≤ 1048576 := by
  rw [exS]
  split
  · rename_i h
    simp only [exOk, Bool.and_eq_true, decide_eq_true_eq] at h
    have := (exR_facts (by omega) vs.length (sentS vs sc sc.length) 0 (good_sent vs sc (by omega) _) (by omega)).1.gl
    simp only
    omega
  · simp
theorem exOk_at {vs sc : List Int} {j : Nat} (hj : j < sc.length) (h : rd sc (j : Int) < 0) : exOk vs sc = false := by
  have : sc.all (fun x => decide (0 ≤ x)) = false := not_all_at sc (fun x => decide (0 ≤ x)) j hj (decide_eq_false (by omega))
  rw [exOk, this, Bool.and_false]
theorem exOk_all {vs sc : List Int} (h1 : vs.length ≤ 100) (h2 : sc.length ≤ 1000) (h : ∀ j, j < sc.length → 0 ≤ rd sc (j : Int)) : exOk vs sc = true := by
  have : sc.all (fun x => decide (0 ≤ x)) = true := all_at sc (fun x => decide (0 ≤ x)) _ rfl (fun j hj => decide_eq_true (h j hj))
  rw [exOk, this, decide_eq_true h1, decide_eq_true h2]
  rfl
theorem exS_no {vs sc : List Int} (h : exOk vs sc = false) : exS vs sc = ([], -1) := by rw [exS, h]; rfl
end Go.Proofs.Ytcdibjneoemidaa.U
