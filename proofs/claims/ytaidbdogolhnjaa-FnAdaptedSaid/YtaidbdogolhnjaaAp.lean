
/- Rows of the call's own that grow by append; numbers that do not wrap. -/
import Derived.Test.YtaidbdogolhnjaaG1
import Derived.Deep.RegionHeld3
import Derived.Deep.AppendLies
import Derived.Deep.LoopGhost
set_option linter.unusedVariables false
set_option linter.unusedSimpArgs false
namespace Go.Proofs.Ytaidbdogolhnjaa.U
open Go.RowKit Go.Lib Go.Proofs.YtaidbdogolhnjaaW.PrintWords

theorem mul_range {a b A B : Int} (h1 : -A ≤ a) (h2 : a ≤ A) (h3 : -B ≤ b) (h4 : b ≤ B) (hB : 0 ≤ B) : -(A * B) ≤ a * b ∧ a * b ≤ A * B := by
  have hA : 0 ≤ A := by omega
  have e := Int.natAbs_mul a b
  have ha : (a.natAbs : Int) ≤ A := by omega
  have hb : (b.natAbs : Int) ≤ B := by omega
  have : ((a * b).natAbs : Int) ≤ A * B := by
    rw [e]
    push_cast
    exact Int.mul_le_mul ha hb (by omega) hA
  omega
theorem i64w {x : Int} (h1 : -9223372036854775808 ≤ x) (h2 : x ≤ 9223372036854775807) : IntKind.i64.wrap x = x := IntWalk.i64_in x (by omega)
theorem OI.snoc {w : World} {base n cap g : Nat} {l : List Int} {x : Int} (h : w.ownsRow base 3 1 (.slice (some ⟨g, 0, none⟩) (n + 1) cap) (n + 1) (nums .i64 l ++ [.int .i64 x])) : OI w base (.slice (some ⟨g, 0, none⟩) (n + 1) cap) (n + 1) (l ++ [x]) := ⟨by rw [nums_append]; exact h⟩
theorem OI.app {W : World} {base : Nat} {l : List Int} {x : Int} {v1 : Value} (h : W.ownsRow base 3 1 v1 (l ++ [x]).length (nums .i64 (l ++ [x]))) : OI W base v1 (l ++ [x]).length (l ++ [x]) := ⟨h⟩
theorem OI.nil (W : World) (base : Nat) : OI W base (.slice none 0 0) 0 [] := ⟨own_nil W base _ _⟩
theorem OI.lit0 (W : World) (base : Nat) (hb : base ≤ W.heap.size) : OI (W.alloc (.cells #[] 3)) base (.slice (some ⟨W.heap.size, 0, none⟩) 0 0) 0 [] := ⟨own_lit W base 3 .i64 [] hb (by simp)⟩
theorem OI.base {w : World} {base base' n : Nat} {v : Value} {l : List Int} (h : OI w base v n l) (hb : base' ≤ base) : OI w base' v n l := ⟨h.out.1, h.out.2.imp id fun ⟨g, cap, cur, e, hb0, rest⟩ => ⟨g, cap, cur, e, Nat.le_trans hb hb0, rest⟩⟩
theorem OI.cap {w : World} {base n c : Nat} {A : Option Addr} {l : List Int} (h : OI w base (.slice A n c) n l) : n ≤ c := by
  rcases h.out.2 with ⟨e, h0⟩ | ⟨g, cap, cur, e, _, _, hc, _⟩
  · omega
  · injection e with e1 e2 e3; omega
theorem Bw.alloc {w W : World} (h : Bw w W) (o : Obj) : Bw w (W.alloc o) := ⟨below_alloc h.out o⟩
theorem own_far {w w1 : World} {e : TypeId} {size n : Nat} {v u : Value} {xs : List Value} {a : Addr} (h : w1.ownsRow w.heap.size e size v n xs) (hc : w.cell? a = some u) : some a.block ≠ v.ownBlock := fun e => by
  have h1 := own_base h _ e.symm
  have h2 := World.block_lt_of_cell? w a hc
  omega
/-- Behind an append in a region that draws its order. -/
theorem Bw.app {w w1 w2 : World} {e : TypeId} {size n base : Nat} {v : Value} {xs : List Value} {o : Obj} (h : Bw w w1) (ho : w1.ownsRow base e size v n xs) (hb : w.heap.size ≤ base) (hg : (w1.alloc o).drew.grownBy w2 v.ownBlock) : Bw w w2 :=
  ⟨(below_drew (below_alloc h.out o)).grown hg (by have := h.size; simp; omega) (fun k hk => Nat.le_trans hb (own_base ho k hk))⟩
/-- Behind an append in a region that does not. -/
theorem Bw.app0 {w w1 w2 : World} {e : TypeId} {size n base : Nat} {v : Value} {xs : List Value} {o : Obj} (h : Bw w w1) (ho : w1.ownsRow base e size v n xs) (hb : w.heap.size ≤ base) (hg : (w1.alloc o).grownBy w2 v.ownBlock) : Bw w w2 :=
  ⟨(below_alloc h.out o).grown hg (by have := h.size; simp; omega) (fun k hk => Nat.le_trans hb (own_base ho k hk))⟩
/-- The greater, and the smaller, of two ints, as Go's max and min tell it. -/
def bigMax (a b : Int) : Int := if a < b then b else a
def smallMin (a b : Int) : Int := if b < a then b else a
theorem bigMax_max (a b : Int) : bigMax a b = max a b := by unfold bigMax; omega
theorem smallMin_min (a b : Int) : smallMin a b = min a b := by unfold smallMin; omega
theorem go_max2 (ats : Array TypeId) (ty : TypeId) (a b : Int) : Builtin.max_ ats ty #[.int .i64 a, .int .i64 b] = pure (.int .i64 (bigMax a b)) := by
  simp [Builtin.max_, List.foldlM_cons, List.foldlM_nil, Builtin.max2, bigMax]
theorem go_min2 (ats : Array TypeId) (ty : TypeId) (a b : Int) : Builtin.min_ ats ty #[.int .i64 a, .int .i64 b] = pure (.int .i64 (smallMin a b)) := by
  simp [Builtin.min_, List.foldlM_cons, List.foldlM_nil, Builtin.min2, smallMin]
/-- A cut of a slice of ints that is read. -/
theorem RI.mid (A : Option Addr) (n c : Nat) (l : List Int) (hl : l.length = n) (hc : n ≤ c) (a b : Int) (h0 : 0 ≤ a) (h1 : a ≤ b) (h2 : b ≤ n) :
    ∃ A' n' c', (∀ W : World, (Instr.slice 27 (.slice A n c) (some (.int .i64 a)) (some (.int .i64 b)) none).run Try.prog W = .ok (.slice A' n' c') W) ∧ (∀ w, RI w A n l → RI w A' n' ((l.take b.toNat).drop a.toNat)) ∧ n' ≤ c' := by
  subst hl
  obtain ⟨i0, hi, hz0, hz1, hz2⟩ := info_parts info_int
  obtain ⟨A', h3, h4, h5⟩ := print_mid_int (P := Try.prog) (k := .i64) 27 3 Try.underlying27 hi hz1 A c l a b h0 h1 h2 hc
  exact ⟨A', _, _, h3, fun w r => ⟨h4 w r.out⟩, h5⟩
theorem quietD {P : Program} {f : FuncId} {args : Array Value} {w : World} {n : Nat} {v : Value} (h : Calls P f args (w.drewN n) fun e w' => e = .returned v ∧ Drawn0 (w.drewN n) w') :
    Calls P f args (w.drewN n) fun e w'' => e = .returned v ∧ ∃ m, w'' = w.drewN m := Calls.quiet_of (h.mono fun e w' k => ⟨k.1, k.2.out⟩)
theorem toBool {P : Program} {f : FuncId} {args : Array Value} {w : World} {b c : Bool} {R : World → Prop} (h : Calls P f args w fun e w' => e = .returned (.bool b) ∧ R w') (e0 : b = c) : Calls P f args w fun e w' => e = .returned (.bool c) ∧ R w' := by rw [← e0]; exact h
end Go.Proofs.Ytaidbdogolhnjaa.U
