
/- Rows of the call's own that grow by append; numbers that do not wrap. -/
import Derived.Test.YtkendhkaheoinaaG1
import Derived.Deep.RegionHeld3
import Derived.Deep.AppendLies
import Derived.Deep.LoopGhost
set_option linter.unusedVariables false
set_option linter.unusedSimpArgs false
namespace Go.Proofs.Ytkendhkaheoinaa.U
open Go.RowKit Go.Lib Go.Proofs.YtkendhkaheoinaaW.PrintWords
theorem i64w {x : Int} (h1 : -9223372036854775808 ≤ x) (h2 : x ≤ 9223372036854775807) : IntKind.i64.wrap x = x := IntWalk.i64_in x (by omega)
theorem OI.app {W : World} {base : Nat} {l : List Int} {x : Int} {v1 : Value} (h : W.ownsRow base 3 1 v1 (l ++ [x]).length (nums .i64 (l ++ [x]))) : OI W base v1 (l ++ [x]).length (l ++ [x]) := ⟨h⟩
theorem OI.nil (W : World) (base : Nat) : OI W base (.slice none 0 0) 0 [] := ⟨own_nil W base _ _⟩
theorem OI.lit0 (W : World) (base : Nat) (hb : base ≤ W.heap.size) : OI (W.alloc (.cells #[] 3)) base (.slice (some ⟨W.heap.size, 0, none⟩) 0 0) 0 [] := ⟨own_lit W base 3 .i64 [] hb (by simp)⟩
theorem OI.base {w : World} {base base' n : Nat} {v : Value} {l : List Int} (h : OI w base v n l) (hb : base' ≤ base) : OI w base' v n l := ⟨h.out.1, h.out.2.imp id fun ⟨g, cap, cur, e, hb0, rest⟩ => ⟨g, cap, cur, e, Nat.le_trans hb hb0, rest⟩⟩
theorem OI.cap {w : World} {base n c : Nat} {A : Option Addr} {l : List Int} (h : OI w base (.slice A n c) n l) : n ≤ c := by
 rcases h.out.2 with ⟨e, h0⟩ | ⟨g, cap, cur, e, _, _, hc, _⟩
 ·omega
 ·injection e with e1 e2 e3; omega
theorem Bw.alloc {w W : World} (h : Bw w W) (o : Obj) : Bw w (W.alloc o) := ⟨below_alloc h.out o⟩
theorem Bw.app {w w1 w2 : World} {e : TypeId} {size n base : Nat} {v : Value} {xs : List Value} {o : Obj} (h : Bw w w1) (ho : w1.ownsRow base e size v n xs) (hb : w.heap.size ≤ base) (hg : (w1.alloc o).drew.grownBy w2 v.ownBlock) : Bw w w2 :=
 ⟨(below_drew (below_alloc h.out o)).grown hg (by have := h.size; simp; omega) (fun k hk => Nat.le_trans hb (own_base ho k hk))⟩
def bigMax (a b : Int) : Int := if a < b then b else a
def smallMin (a b : Int) : Int := if b < a then b else a
theorem bigMax_max (a b : Int) : bigMax a b = max a b := by unfold bigMax; omega
theorem smallMin_min (a b : Int) : smallMin a b = min a b := by unfold smallMin; omega
theorem go_max2 (ats : Array TypeId) (ty : TypeId) (a b : Int) : Builtin.max_ ats ty #[.int .i64 a, .int .i64 b] = pure (.int .i64 (bigMax a b)) := by
 simp [Builtin.max_, List.foldlM_cons, List.foldlM_nil, Builtin.max2, bigMax]
theorem go_min2 (ats : Array TypeId) (ty : TypeId) (a b : Int) : Builtin.min_ ats ty #[.int .i64 a, .int .i64 b] = pure (.int .i64 (smallMin a b)) := by
 simp [Builtin.min_, List.foldlM_cons, List.foldlM_nil, Builtin.min2, smallMin]
theorem toBool {P : Program} {f : FuncId} {args : Array Value} {w : World} {b c : Bool} {R : World → Prop} (h : Calls P f args w fun e w' => e = .returned (.bool b) ∧ R w') (e0 : b = c) : Calls P f args w fun e w' => e = .returned (.bool c) ∧ R w' := by rw [← e0]; exact h
end Go.Proofs.Ytkendhkaheoinaa.U
