
/- A macro step: the plain law. -/
import Derived.Test.YtkendhkaheoinaaG15
import Derived.Test.YtkendhkaheoinaaG14
set_option linter.unusedVariables false
set_option linter.unusedSimpArgs false
namespace Go.Proofs.Ytkendhkaheoinaa.U
open Go.RowKit Go.Lib Go.Proofs.YtkendhkaheoinaaW.PrintWords

/-- the state behind the first k ticks -/
def macS (s : Sta) : Nat → Sta
  | 0 => s
  | k + 1 => stepS (macS s k) (k : Int)
theorem macS_same (s : Sta) : ∀ k, (macS s k).ro = s.ro ∧ (macS s k).lv = s.lv ∧ (macS s k).bd = s.bd
  | 0 => ⟨rfl, rfl, rfl⟩
  | k + 1 => macS_same s k
theorem macS_ok {s : Sta} (h : staOk s.ro s.lv s.ms s.ts s.bd = true) : ∀ k, staOk (macS s k).ro (macS s k).lv (macS s k).ms (macS s k).ts (macS s k).bd = true
  | 0 => h
  | k + 1 => stepS_ok (macS_ok h k) _
theorem macS_len {s : Sta} (h : staOk s.ro s.lv s.ms s.ts s.bd = true) (k : Nat) : (macS s k).lv.length = s.lv.length ∧ (macS s k).ms.length = s.lv.length ∧ (macS s k).ts.length = s.lv.length ∧ (macS s k).bd.length = s.bd.length := by
  have h1 := (StF.of (macS_ok h k))
  have h2 := macS_same s k
  exact ⟨by rw [h2.2.1], by rw [h1.ms, h2.2.1], by rw [h1.ts, h2.2.1], by rw [h2.2.2]⟩
/-- what has flown through face i in the first k ticks -/
def fsum (s : Sta) (i : Nat) : Nat → Int
  | 0 => 0
  | k + 1 => fsum s i k + fl (macS s k) (k : Int) i
def fsL (s : Sta) (k : Nat) : Nat → Int
  | 0 => 0
  | i + 1 => fsum s i k
theorem fsum_range {s : Sta} (h : staOk s.ro s.lv s.ms s.ts s.bd = true) (i : Nat) (hi : i < s.lv.length) : ∀ k : Nat, -(10000000 * (k : Int)) ≤ fsum s i k ∧ fsum s i k ≤ 10000000 * (k : Int)
  | 0 => by simp [fsum]
  | k + 1 => by
    have ih := fsum_range h i hi k
    have h1 := fl_bd (StF.of (macS_ok h k)) (k : Int) i (by rw [(macS_len h k).1]; exact hi)
    rw [fsum]
    omega
theorem fsum_last {s : Sta} (h : staOk s.ro s.lv s.ms s.ts s.bd = true) (i : Nat) (hi : i < s.lv.length) (hl : ¬ i + 1 < s.lv.length) : ∀ k, fsum s i k = 0
  | 0 => rfl
  | k + 1 => by
    rw [fsum, fsum_last h i hi hl k, (fl_range (StF.of (macS_ok h k)) (k : Int) i (by rw [(macS_len h k).1]; exact hi)).2.2 (by rw [(macS_len h k).1]; exact hl)]
    rfl
theorem macS_ms {s : Sta} (h : staOk s.ro s.lv s.ms s.ts s.bd = true) (i : Nat) (hi : i < s.lv.length) : ∀ k, rd (macS s k).ms (i : Int) = rd s.ms (i : Int) + fsL s k i - fsum s i k
  | 0 => by cases i <;> simp [macS, fsL, fsum]
  | k + 1 => by
    have ih := macS_ms h i hi k
    have e : rd (macS s (k + 1)).ms (i : Int) = stM (macS s k) (k : Int) i := rd_rowOf (stM (macS s k) (k : Int)) (by rw [(macS_len h k).1]; exact hi)
    rw [e, stM, ih, fsum]
    cases i with
    | zero => simp only [fsL, flL]; omega
    | succ i => simp only [fsL, flL, fsum]; omega
end Go.Proofs.Ytkendhkaheoinaa.U
