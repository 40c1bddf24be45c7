
/- A macro step: the plain law. -/
import Derived.Test.YtkendhkaheoinaaG15
import Derived.Test.YtkendhkaheoinaaG14
set_option linter.unusedVariables false
set_option linter.unusedSimpArgs false
namespace Go.Proofs.Ytkendhkaheoinaa.U
open Go.RowKit Go.Lib Go.Proofs.YtkendhkaheoinaaW.PrintWords
def macS (s : Sta) : Nat → Sta
 | 0 => s
 | k + 1 => stepS (macS s k) (k : Int)
theorem macS_same (s : Sta) : ∀ k, (macS s k).ro = s.ro ∧ (macS s k).lv = s.lv ∧ (macS s k).bd = s.bd
 | 0 => ⟨rfl, rfl, rfl⟩
 | k + 1 => macS_same s k
theorem macS_ok {s : Sta} (h : staOk s.ro s.lv s.ms s.ts s.bd = true) : ∀ k, staOk (macS s k).ro (macS s k).lv (macS s k).ms (macS s k).ts (macS s k).bd = true
 | 0 => h
 | k + 1 => stepS_ok (macS_ok h k) _
theorem macS_len {s : Sta} (h : staOk s.ro s.lv s.ms s.ts s.bd = true) (k : Nat) : (macS s k).lv.length = s.lv.length ∧ (macS s k).ms.length = s.lv.length ∧ (macS s k).ts.length = s.lv.length ∧ (macS s k).bd.length = s.bd.length := by
 have h1 := (StF.of (macS_ok h k))
 have h2 := macS_same s k
 exact ⟨by rw [h2.2.1], by rw [h1.ms, h2.2.1], by rw [h1.ts, h2.2.1], by rw [h2.2.2]⟩
end Go.Proofs.Ytkendhkaheoinaa.U
