
/- Appends of rows of cells and of ints. -/
import Derived.Test.YtaidbdogolhnjaaG3
import Derived.Test.YtaidbdogolhnjaaCn
set_option linter.unusedVariables false
set_option linter.unusedSimpArgs false
namespace Go.Proofs.Ytaidbdogolhnjaa.U
open Go.RowKit Go.Lib Go.Proofs.YtaidbdogolhnjaaW.PrintWords

open Go.Proofs.YtaidbdogolhnjaaW.PrintLast Go.Proofs.YtaidbdogolhnjaaW.PrintMore
theorem reps_flat {α : Type} {E : α → List Value} {k : Nat} (hk : ∀ p, (E p).length = k) : ∀ (l : List α) (cs : List Value), Reps (fun p c => c = E p) k l cs → cs = l.flatMap E
  | [], cs, h => by have := h.1; simp at this; simp [this]
  | p :: l, cs, h => by
    have h0 := h.2 0 p rfl
    rw [Nat.zero_mul, List.drop_zero] at h0
    have hl : cs.length = l.length * k + k := by rw [h.1, List.length_cons, Nat.succ_mul]
    have h1 : Reps (fun p c => c = E p) k l (cs.drop k) := ⟨by rw [List.length_drop, hl]; omega, fun j q hq => by
      have := h.2 (j + 1) q (by simpa using hq)
      rw [List.drop_drop, Nat.add_comm k (j * k), ← Nat.succ_mul]
      exact this⟩
    rw [List.flatMap_cons, ← reps_flat hk l _ h1, ← h0, List.take_append_drop]
theorem flat_reps {α : Type} {E : α → List Value} {k : Nat} (hk : ∀ p, (E p).length = k) : ∀ (l : List α), Reps (fun p c => c = E p) k l (l.flatMap E)
  | [] => Reps.none _ _
  | p :: l => by
    have ih := flat_reps hk l
    refine ⟨by rw [List.flatMap_cons, List.length_append, ih.1, hk, List.length_cons, Nat.succ_mul, Nat.add_comm], fun j q hq => ?_⟩
    cases j with
    | zero =>
      obtain rfl := Option.some.inj hq
      rw [Nat.zero_mul, List.drop_zero, List.flatMap_cons, ← hk p, List.take_left']
      rfl
    | succ j =>
      have := ih.2 j q (by simpa using hq)
      rw [List.flatMap_cons, Nat.succ_mul, Nat.add_comm (j * k) k, ← List.drop_drop, List.drop_left' (hk p)]
      exact this
def ceE (x : Ce) : List Value := [.int .i64 x.r, .int .i64 x.l, .int .i64 x.i]
def kCe : Kd Ce where
  sz := 3
  E := []
  K := fun _ x cs => cs = ceE x
  M := fun _ _ _ x cs => cs = ceE x
  K_len := fun h => by rw [h]; rfl
  K_one := fun h u hu => by
    rw [h] at hu
    simp [ceE] at hu
    rcases hu with rfl | rfl | rfl <;> rfl
  K_below := fun _ h => h
  K_of_M := fun h => h
  M_mono := fun _ h => h
  M_bound := fun h => h
  M_move := fun _ h => h
  M_lower := fun _ h => h
theorem idF_cells (l : List Ce) : nums .i64 (idF l) = l.flatMap ceE := by
  induction l with
  | nil => rfl
  | cons x l ih => rw [idF_cons, List.flatMap_cons, ← ih]; rfl
theorem ints_cells (l : List Int) : nums .i64 l = l.flatMap (fun x => [Value.int .i64 x]) := by
  induction l with
  | nil => rfl
  | cons x l ih => rw [List.flatMap_cons, ← ih]; rfl
theorem IdO.R {w : World} {base : Nat} {v : Value} {l : List Ce} (h : IdO w base v l.length l) : Kd.R kCe 58 w base (fun _ => True) v l :=
  ⟨fun _ _ => trivial, _, h.out, by rw [idF_cells]; exact flat_reps (E := ceE) (k := 3) (fun _ => rfl) l⟩
theorem IdO.of_R {w : World} {base : Nat} {v : Value} {l : List Ce} (h : Kd.R kCe 58 w base (fun _ => True) v l) : IdO w base v l.length l := by
  obtain ⟨_, inner, ho, hr⟩ := h
  have := reps_flat (E := ceE) (fun _ => rfl) l inner hr
  exact ⟨by rw [idF_cells, ← this]; exact ho⟩
theorem OI.R {w : World} {base : Nat} {v : Value} {l : List Int} (h : OI w base v l.length l) : Kd.R (Kd.int .i64) 3 w base (fun _ => True) v l :=
  ⟨fun _ _ => trivial, _, h.out, by rw [ints_cells]; exact flat_reps (E := fun x => [Value.int .i64 x]) (k := 1) (fun _ => rfl) l⟩
theorem OI.of_R {w : World} {base : Nat} {v : Value} {l : List Int} (h : Kd.R (Kd.int .i64) 3 w base (fun _ => True) v l) : OI w base v l.length l := by
  obtain ⟨_, inner, ho, hr⟩ := h
  have := reps_flat (k := 1) (E := fun x => [Value.int .i64 x]) (fun _ => rfl) l inner hr
  exact ⟨by rw [ints_cells, ← this]; exact ho⟩
theorem RI.row {w : World} {A : Option Addr} {n : Nat} {l : List Int} (h : RI w A n l) : ReadsRow (fun (x : Int) c => c = [Value.int .i64 x]) 1 w A n l := ⟨h.len, h.max, fun hn => by
  obtain ⟨ad, e, hc⟩ := h.out.2.2 hn
  refine ⟨ad, e, fun j p hp => ⟨_, rfl, rfl, fun i u hu => ?_⟩⟩
  have hj : j < l.length := (List.getElem?_eq_some_iff.1 hp).1
  match i, hu with
  | 0, hu =>
    obtain rfl := Option.some.inj hu
    have := hc j (by rw [← h.len]; exact hj)
    rw [List.getD_eq_getElem?_getD, hp] at this
    rw [Nat.mul_one, Nat.add_zero]
    exact this
  | i + 1, hu => simp at hu⟩
section
variable {ops : Array Oper} {rest : List Oper} {o : Oper} {a : Act} {Q : Exit → Act → World → Prop} {K : Act → World → Prop}
theorem appendIds {w0 W : World} (base : Nat) (hgd : o.guard = none) (s x : Operand) (ho : o.op = .call { callee := .builtin .append, args := #[s, x], argTypes := #[24, 24] })
    (v : Value) (l ys : List Ce) (A : Option Addr) (m c : Nat) (hs : a.eval s = v) (hx : a.eval x = .slice A m c) (HO : IdO W base v l.length l) (HR : IdR W A m ys) (HB : Below base w0 W) (hbase : base ≤ W.heap.size) (hl : l.length + m ≤ 1000000000)
    (h : ∀ v1 w1, IdO w1 base v1 (l ++ ys).length (l ++ ys) → Below base w0 w1 → W.grownBy w1 v.ownBlock → (v1.ownBlock = v.ownBlock ∨ ∃ b, v1.ownBlock = some b ∧ W.heap.size ≤ b) → wpList Try.prog ops Q rest (a.put o.dst v1) w1) :
    wpList Try.prog ops Q (o :: rest) a W :=
  Kd.R_append_rows kCe base hgd s x _ _ _ 24 ho Try.underlying24 info_id rfl (by show 0 < 3; omega) (by omega) v l ys A m c (fun _ => True) (fun _ => False) hs hx HO.R HR.out (fun x cs h => h) (fun _ h => h.elim) (fun _ _ => trivial) HB hbase (by omega) fun v1 w1 hr => h v1 w1 (IdO.of_R hr)
theorem appendIds_step {w0 W : World} (base : Nat) (hw : Region.wanted o (yielded ops a.tmps) = true) (s x : Operand) (ho : o.op = .call { callee := .builtin .append, args := #[s, x], argTypes := #[24, 24] })
    (v : Value) (l ys : List Ce) (A : Option Addr) (m c : Nat) (hs : a.eval s = v) (hx : a.eval x = .slice A m c) (HO : IdO W base v l.length l) (HR : IdR W A m ys) (HB : Below base w0 W) (hbase : base ≤ W.heap.size) (hl : l.length + m ≤ 1000000000)
    (h : ∀ v1 w1, IdO w1 base v1 (l ++ ys).length (l ++ ys) → Below base w0 w1 → W.grownBy w1 v.ownBlock → (v1.ownBlock = v.ownBlock ∨ ∃ b, v1.ownBlock = some b ∧ W.heap.size ≤ b) → K (a.put o.dst v1) w1) :
    if Region.wanted o (yielded ops a.tmps) = true then Oper.wp Try.prog o a W K Q else K (a.put o.dst undef) W :=
  Kd.R_append_rows_step kCe base hw s x _ _ _ 24 ho Try.underlying24 info_id rfl (by show 0 < 3; omega) (by omega) v l ys A m c (fun _ => True) (fun _ => False) hs hx HO.R HR.out (fun x cs h => h) (fun _ h => h.elim) (fun _ _ => trivial) HB hbase (by omega) fun v1 w1 hr => h v1 w1 (IdO.of_R hr)
theorem appendInts {w0 W : World} (base : Nat) (hgd : o.guard = none) (s x : Operand) (ho : o.op = .call { callee := .builtin .append, args := #[s, x], argTypes := #[27, 27] })
    (v : Value) (l ys : List Int) (A : Option Addr) (m c : Nat) (hs : a.eval s = v) (hx : a.eval x = .slice A m c) (HO : OI W base v l.length l) (HR : RI W A m ys) (HB : Below base w0 W) (hbase : base ≤ W.heap.size) (hl : l.length + m ≤ 1000000000)
    (h : ∀ v1 w1, OI w1 base v1 (l ++ ys).length (l ++ ys) → Below base w0 w1 → W.grownBy w1 v.ownBlock → (v1.ownBlock = v.ownBlock ∨ ∃ b, v1.ownBlock = some b ∧ W.heap.size ≤ b) → wpList Try.prog ops Q rest (a.put o.dst v1) w1) :
    wpList Try.prog ops Q (o :: rest) a W :=
  Kd.R_append_rows (Kd.int .i64) base hgd s x _ _ _ 8 ho Try.underlying27 info_int rfl (by show 0 < 1; omega) (by omega) v l ys A m c (fun _ => True) (fun _ => False) hs hx HO.R HR.row (fun x cs h => h) (fun _ h => h.elim) (fun _ _ => trivial) HB hbase (by omega) fun v1 w1 hr => h v1 w1 (OI.of_R hr)
theorem appendInts_step {w0 W : World} (base : Nat) (hw : Region.wanted o (yielded ops a.tmps) = true) (s x : Operand) (ho : o.op = .call { callee := .builtin .append, args := #[s, x], argTypes := #[27, 27] })
    (v : Value) (l ys : List Int) (A : Option Addr) (m c : Nat) (hs : a.eval s = v) (hx : a.eval x = .slice A m c) (HO : OI W base v l.length l) (HR : RI W A m ys) (HB : Below base w0 W) (hbase : base ≤ W.heap.size) (hl : l.length + m ≤ 1000000000)
    (h : ∀ v1 w1, OI w1 base v1 (l ++ ys).length (l ++ ys) → Below base w0 w1 → W.grownBy w1 v.ownBlock → (v1.ownBlock = v.ownBlock ∨ ∃ b, v1.ownBlock = some b ∧ W.heap.size ≤ b) → K (a.put o.dst v1) w1) :
    if Region.wanted o (yielded ops a.tmps) = true then Oper.wp Try.prog o a W K Q else K (a.put o.dst undef) W :=
  Kd.R_append_rows_step (Kd.int .i64) base hw s x _ _ _ 8 ho Try.underlying27 info_int rfl (by show 0 < 1; omega) (by omega) v l ys A m c (fun _ => True) (fun _ => False) hs hx HO.R HR.row (fun x cs h => h) (fun _ h => h.elim) (fun _ _ => trivial) HB hbase (by omega) fun v1 w1 hr => h v1 w1 (OI.of_R hr)
end
theorem eql_nil_id (w : World) (a : Option Addr) (n c : Nat) : (binOp .eql 24 (.slice a n c) (.slice none 0 0)).run Try.prog w = .ok (.bool a.isNone) w := by
  exact Go.Lib.run_eql_slice_nil (h := Try.underlying24) ..
attribute [local go_sem] eql_nil_id
theorem IdO.lit0 (w : World) : IdO (w.alloc (.cells #[] 58)) w.heap.size (.slice (some ⟨w.heap.size, 0, none⟩) 0 0) 0 [] := ⟨by
  have h := World.ownsRow_lit (base := w.heap.size) (e := 58) (size := 3) w #[] 0 (Nat.le_refl _) (by simp [maxLen]) (by simp)
  exact h⟩
theorem cloneIds (A : Option Addr) (n c : Nat) (l : List Ce) (w : World) (r : IdR w A n l) (hn : n ≤ 1000000) :
    Calls Try.prog 79 #[.slice A n c] w fun e w' => ∃ v, e = .returned v ∧ IdO w' w.heap.size v n l ∧ Bw w w' := by
  have hl := r.len
  cases A with
  | none =>
    have h0 : n = 0 := by
      rcases Nat.eq_zero_or_pos n with h | h
      · exact h
      · obtain ⟨ad, e, _⟩ := r.at 0 h
        cases e
    subst h0
    obtain rfl : l = [] := List.eq_nil_of_length_eq_zero hl
    go_enter Try.func79, Try.ntmps79
    go_wp2
    go_ret
    exact ⟨_, rfl, FO.nil _ _ _ _, Bw.refl _⟩
  | some ad =>
    have o6 := IdO.lit0 w
    have b1 : Bw w (w.alloc (.cells #[] 58)) := (Bw.refl w).alloc _
    have r1 := r.to b1
    go_enter Try.func79, Try.ntmps79
    go_wp2_with (at_builtin; refine appendIds (w0 := w) w.heap.size rfl _ _ rfl (.slice (some ⟨w.heap.size, 0, none⟩) 0 0) [] l (some ad) n c rfl rfl o6 r1 b1.out b1.size (by simp; omega) ?_; intro v1 w3 hown1 hB1 hg1 _)
    go_ret
    exact ⟨_, rfl, by rw [List.nil_append, hl] at hown1; exact hown1, ⟨hB1⟩⟩
/-- an appended row stays apart -/
theorem Apart.grow {W : World} {lo hi t k n : Nat} {v v1 u : Value} {F : List Int} (h : Apart v u) (hu : Rw W lo hi t k u n F) (hg : v1.ownBlock = v.ownBlock ∨ ∃ b, v1.ownBlock = some b ∧ W.heap.size ≤ b) : Apart v1 u := by
  rcases hg with e | ⟨b, e, hb⟩
  · rcases h with h | h
    · exact .inl (e.trans h)
    · exact .inr (by rw [e]; exact h)
  · refine .inr fun e2 => ?_
    have := own_lt hu.o.out b (by rw [← e2, e])
    omega
/-- a block of another type is no row's -/
theorem blk_row {w w' : World} {base g t t' k n : Nat} {v : Value} {F : List Int} {cs : Array Value} (hg : w.heap[g]? = some (.cells cs t' (0, 0))) (h : FO w base t k v n F) (hne : t ≠ t') (k2 : w.grownBy w' v.ownBlock) : w'.heap[g]? = some (.cells cs t' (0, 0)) :=
  blk_grown hg k2 (own_ne h.out hg hne)
end Go.Proofs.Ytaidbdogolhnjaa.U
