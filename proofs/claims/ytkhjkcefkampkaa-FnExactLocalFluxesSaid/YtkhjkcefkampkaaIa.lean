
/- Appends of rows of cells and of ints. -/
import Derived.Test.YtkhjkcefkampkaaG3
import Derived.Test.YtkhjkcefkampkaaCn
set_option linter.unusedVariables false
set_option linter.unusedSimpArgs false
namespace Go.Proofs.Ytkhjkcefkampkaa.U
open Go.RowKit Go.Lib Go.Proofs.YtkhjkcefkampkaaW.PrintWords
open Go.Proofs.YtkhjkcefkampkaaW.PrintLast Go.Proofs.YtkhjkcefkampkaaW.PrintMore
theorem flat_reps {α : Type} {E : α → List Value} {k : Nat} (hk : ∀ p, (E p).length = k) : ∀ (l : List α), Reps (fun p c => c = E p) k l (l.flatMap E)
 | [] => Reps.none _ _
 | p :: l => by
  have ih := flat_reps hk l
  refine ⟨by rw [List.flatMap_cons, List.length_append, ih.1, hk, List.length_cons, Nat.succ_mul, Nat.add_comm], fun j q hq => ?_⟩
  cases j with
  | zero =>
   obtain rfl := Option.some.inj hq
   rw [Nat.zero_mul, List.drop_zero, List.flatMap_cons, ← hk p, List.take_left']
   rfl
  | succ j =>
   have := ih.2 j q (by simpa using hq)
   rw [List.flatMap_cons, Nat.succ_mul, Nat.add_comm (j * k) k, ← List.drop_drop, List.drop_left' (hk p)]
   exact this
def ceE (x : Ce) : List Value := [.int .i64 x.r, .int .i64 x.l, .int .i64 x.i]
def kCe : Kd Ce where
 sz := 3
 E := []
 K := fun _ x cs => cs = ceE x
 M := fun _ _ _ x cs => cs = ceE x
 K_len := fun h => by rw [h]; rfl
 K_one := fun h u hu => by
  rw [h] at hu
  simp [ceE] at hu
  rcases hu with rfl | rfl | rfl <;> rfl
 K_below := fun _ h => h
 K_of_M := fun h => h
 M_mono := fun _ h => h
 M_bound := fun h => h
 M_move := fun _ h => h
 M_lower := fun _ h => h
theorem idF_cells (l : List Ce) : nums .i64 (idF l) = l.flatMap ceE := by
 induction l with
 | nil => rfl
 | cons x l ih => rw [idF_cons, List.flatMap_cons, ← ih]; rfl
theorem ints_cells (l : List Int) : nums .i64 l = l.flatMap (fun x => [Value.int .i64 x]) := by
 induction l with
 | nil => rfl
 | cons x l ih => rw [List.flatMap_cons, ← ih]; rfl
theorem IdO.R {w : World} {base : Nat} {v : Value} {l : List Ce} (h : IdO w base v l.length l) : Kd.R kCe 70 w base (fun _ => True) v l :=
 ⟨fun _ _ => trivial, _, h.out, by rw [idF_cells]; exact flat_reps (E := ceE) (k := 3) (fun _ => rfl) l⟩
theorem OI.R {w : World} {base : Nat} {v : Value} {l : List Int} (h : OI w base v l.length l) : Kd.R (Kd.int .i64) 3 w base (fun _ => True) v l :=
 ⟨fun _ _ => trivial, _, h.out, by rw [ints_cells]; exact flat_reps (E := fun x => [Value.int .i64 x]) (k := 1) (fun _ => rfl) l⟩
theorem RI.row {w : World} {A : Option Addr} {n : Nat} {l : List Int} (h : RI w A n l) : ReadsRow (fun (x : Int) c => c = [Value.int .i64 x]) 1 w A n l := ⟨h.len, h.max, fun hn => by
 obtain ⟨ad, e, hc⟩ := h.out.2.2 hn
 refine ⟨ad, e, fun j p hp => ⟨_, rfl, rfl, fun i u hu => ?_⟩⟩
 have hj : j < l.length := (List.getElem?_eq_some_iff.1 hp).1
 match i, hu with
 | 0, hu =>
  obtain rfl := Option.some.inj hu
  have := hc j (by rw [← h.len]; exact hj)
  rw [List.getD_eq_getElem?_getD, hp] at this
  rw [Nat.mul_one, Nat.add_zero]
  exact this
 | i + 1, hu => simp at hu⟩
section
variable {ops : Array Oper} {rest : List Oper} {o : Oper} {a : Act} {Q : Exit → Act → World → Prop} {K : Act → World → Prop}
end
theorem eql_nil_id (w : World) (a : Option Addr) (n c : Nat) : (binOp .eql 36 (.slice a n c) (.slice none 0 0)).run Try.prog w = .ok (.bool a.isNone) w := by
 exact Go.Lib.run_eql_slice_nil (h := Try.underlying36) ..
attribute [local go_sem] eql_nil_id
theorem IdO.lit0 (w : World) : IdO (w.alloc (.cells #[] 70)) w.heap.size (.slice (some ⟨w.heap.size, 0, none⟩) 0 0) 0 [] := ⟨by
 have h := World.ownsRow_lit (base := w.heap.size) (e := 70) (size := 3) w #[] 0 (Nat.le_refl _) (by simp [maxLen]) (by simp)
 exact h⟩
theorem Apart.grow {W : World} {lo hi t k n : Nat} {v v1 u : Value} {F : List Int} (h : Apart v u) (hu : Rw W lo hi t k u n F) (hg : v1.ownBlock = v.ownBlock ∨ ∃ b, v1.ownBlock = some b ∧ W.heap.size ≤ b) : Apart v1 u := by
 rcases hg with e | ⟨b, e, hb⟩
 ·rcases h with h | h
  ·exact .inl (e.trans h)
  ·exact .inr (by rw [e]; exact h)
 ·refine .inr fun e2 => ?_
  have := own_lt hu.o.out b (by rw [← e2, e])
  omega
end Go.Proofs.Ytkhjkcefkampkaa.U
