
/- Rows of events. -/
import Derived.Test.YtkendhkaheoinaaIa
import Derived.Test.YtkendhkaheoinaaG3
import Derived.Test.YtkendhkaheoinaaG1
set_option linter.unusedVariables false
set_option linter.unusedSimpArgs false
namespace Go.Proofs.Ytkendhkaheoinaa.U
open Go.RowKit Go.Lib Go.Proofs.YtkendhkaheoinaaW.PrintWords
open Go.Proofs.YtkendhkaheoinaaW.PrintLast Go.Proofs.YtkendhkaheoinaaW.PrintMore
structure Ev where
 q : Int
 v : Int
deriving DecidableEq, Repr
def ez : Ev := ⟨0, 0⟩
def ge (l : List Ev) (j : Nat) : Ev := l.getD j ez
theorem ge_at {l : List Ev} {j : Nat} (h : j < l.length) : ge l j = l[j] := by rw [ge, List.getD_eq_getElem?_getD, List.getElem?_eq_getElem h]; rfl
def evF (l : List Ev) : List Int := l.flatMap fun p => [p.q, p.v]
theorem evF_cons (x : Ev) (l : List Ev) : evF (x :: l) = x.q :: x.v :: evF l := rfl
theorem evF_append (a b : List Ev) : evF (a ++ b) = evF a ++ evF b := by simp [evF]
theorem evF_length (l : List Ev) : (evF l).length = l.length * 2 := by
 induction l with
 | nil => rfl
 | cons x l ih => rw [evF_cons, List.length_cons, List.length_cons, List.length_cons, ih]; omega
theorem evF_rd : ∀ (l : List Ev) (j : Nat), j < l.length → rd (evF l) ((j * 2 : Nat) : Int) = (ge l j).q ∧ rd (evF l) ((j * 2 + 1 : Nat) : Int) = (ge l j).v
 | [], j, h => by simp at h
 | x :: l, 0, h => ⟨rfl, rfl⟩
 | x :: l, j + 1, h => by
  have ih := evF_rd l j (by simpa using h)
  simp only [rd_nat] at ih ⊢
  rw [evF_cons, show (j + 1) * 2 = j * 2 + 2 by omega, show j * 2 + 2 + 1 = (j * 2 + 1) + 2 by omega]
  simp only [List.getD_cons_succ]
  exact ih
structure EvR (w : World) (A : Option Addr) (n : Nat) (l : List Ev) : Prop where mk :: (out : FR w 2 A n (evF l))
theorem EvR.len {w : World} {A : Option Addr} {n : Nat} {l : List Ev} (h : EvR w A n l) : l.length = n := by have := h.out.len; rw [evF_length] at this; omega
theorem EvR.max {w : World} {A : Option Addr} {n : Nat} {l : List Ev} (h : EvR w A n l) : n ≤ 9223372036854775807 := h.out.max
theorem EvR.to {w w' : World} {A : Option Addr} {n : Nat} {l : List Ev} (h : EvR w A n l) (b : Bw w w') : EvR w' A n l := ⟨h.out.to b⟩
theorem EvR.at {w : World} {A : Option Addr} {n : Nat} {l : List Ev} (h : EvR w A n l) (j : Nat) (hj : j < n) :
  ∃ ad, A = some ad ∧ w.cell? (ad.add (j * 2)) = some (.int .i64 (ge l j).q) ∧ w.cell? ⟨(ad.add (j * 2)).block, (ad.add (j * 2)).off + 1, none⟩ = some (.int .i64 (ge l j).v) := by
 obtain ⟨ad, e, hc⟩ := h.out.at_ (by omega)
 have hf := evF_rd l j (by rw [h.len]; exact hj)
 have h0 := hc (j * 2) (by omega)
 have h1 := hc (j * 2 + 1) (by omega)
 rw [hf.1] at h0
 rw [hf.2, add_field _ _ _ (by omega)] at h1
 exact ⟨ad, e, h0, h1⟩
theorem info_ev : (Try.prog.info? 40).map (fun i => (i.zero, i.size, i.bytes)) = some (some (.agg #[.int .i64 0, .int .i64 0]), 2, 16) := by kernel_rfl
abbrev EvO (w : World) (base : Nat) (v : Value) (n : Nat) (l : List Ev) : Prop := FO w base 40 2 v n (evF l)
theorem EvO.made (W : World) (base m : Nat) (hb : base ≤ W.heap.size) (hm : m ≤ 9223372036854775807) : EvO (W.alloc (.cells (madeCells #[.int .i64 0, .int .i64 0] (m * 2)) 40)) base (.slice (some ⟨W.heap.size, 0, none⟩) m m) m (List.replicate m ez) := ⟨by
 have h := World.ownsRow_lit (base := base) (e := 40) (size := 2) W (madeCells #[.int .i64 0, .int .i64 0] (m * 2)) m hb (by simpa [maxLen] using hm) (by simp [size_madeCells])
 have hl : (madeCells #[Value.int .i64 0, .int .i64 0] (m * 2)).toList = nums .i64 (evF (List.replicate m ez)) := by
  have hz : evF (List.replicate m ez) = List.replicate (m * 2) 0 := by
   clear h hm
   induction m with
   | zero => rfl
   | succ m ih => rw [List.replicate_succ, evF_cons, ih, show (m + 1) * 2 = m * 2 + 1 + 1 by omega, List.replicate_succ, List.replicate_succ]; rfl
  rw [hz]
  apply List.ext_getElem
  ·simp [nums, madeCells]
  ·intro i h1 h2
   simp only [nums, List.map_replicate, List.getElem_replicate, madeCells, Array.getElem_toList, Array.getElem_ofFn]
   have : i % 2 = 0 ∨ i % 2 = 1 := by omega
   rcases this with h | h <;> simp [h]
 rwa [hl] at h⟩
theorem EvR.row {w : World} {A : Option Addr} {n : Nat} {l : List Ev} (h : EvR w A n l) : ReadsRow (fun (x : Ev) c => c = [Value.int .i64 x.q, .int .i64 x.v]) 2 w A n l := ⟨h.len, h.max, fun hn => by
 obtain ⟨ad, e, hc⟩ := h.out.at_ hn
 refine ⟨ad, e, fun j p hp => ⟨_, rfl, rfl, fun i u hu => ?_⟩⟩
 have hj : j < l.length := (List.getElem?_eq_some_iff.1 hp).1
 have hl := h.len
 have hf := evF_rd l j hj
 have hg : ge l j = p := by rw [ge_at hj]; rw [List.getElem?_eq_getElem hj] at hp; exact Option.some.inj hp
 rw [hg] at hf
 match i, hu with
 | 0, hu => obtain rfl := Option.some.inj hu; rw [← hf.1]; exact hc _ (by omega)
 | 1, hu => obtain rfl := Option.some.inj hu; rw [← hf.2]; exact hc _ (by omega)
 | i + 2, hu => simp at hu⟩
def evE (x : Ev) : List Value := [.int .i64 x.q, .int .i64 x.v]
def kEv : Kd Ev where
 sz := 2
 E := []
 K := fun _ x cs => cs = evE x
 M := fun _ _ _ x cs => cs = evE x
 K_len := fun h => by rw [h]; rfl
 K_one := fun h u hu => by
  rw [h] at hu
  simp [evE] at hu
  rcases hu with rfl | rfl <;> rfl
 K_below := fun _ h => h
 K_of_M := fun h => h
 M_mono := fun _ h => h
 M_bound := fun h => h
 M_move := fun _ h => h
 M_lower := fun _ h => h
theorem evF_cells (l : List Ev) : nums .i64 (evF l) = l.flatMap evE := by
 induction l with
 | nil => rfl
 | cons x l ih => rw [evF_cons, List.flatMap_cons, ← ih]; rfl
theorem EvO.R {w : World} {base : Nat} {v : Value} {l : List Ev} (h : EvO w base v l.length l) : Kd.R kEv 40 w base (fun _ => True) v l :=
 ⟨fun _ _ => trivial, _, h.out, by rw [evF_cells]; exact flat_reps (E := evE) (k := 2) (fun _ => rfl) l⟩
theorem EvO.of_R {w : World} {base : Nat} {v : Value} {l : List Ev} (h : Kd.R kEv 40 w base (fun _ => True) v l) : EvO w base v l.length l := by
 obtain ⟨_, inner, ho, hr⟩ := h
 have := reps_flat (E := evE) (fun _ => rfl) l inner hr
 exact ⟨by rw [evF_cells, ← this]; exact ho⟩
section
variable {ops : Array Oper} {rest : List Oper} {o : Oper} {a : Act} {Q : Exit → Act → World → Prop} {K : Act → World → Prop}
theorem appendEvs {w0 W : World} (base : Nat) (hgd : o.guard = none) (s x : Operand) (ho : o.op = .call { callee := .builtin .append, args := #[s, x], argTypes := #[31, 31] })
  (v : Value) (l ys : List Ev) (A : Option Addr) (m c : Nat) (hs : a.eval s = v) (hx : a.eval x = .slice A m c) (HO : EvO W base v l.length l) (HR : EvR W A m ys) (HB : Below base w0 W) (hbase : base ≤ W.heap.size) (hl : l.length + m ≤ 1000000000)
  (h : ∀ v1 w1, EvO w1 base v1 (l ++ ys).length (l ++ ys) → Below base w0 w1 → W.grownBy w1 v.ownBlock → (v1.ownBlock = v.ownBlock ∨ ∃ b, v1.ownBlock = some b ∧ W.heap.size ≤ b) → wpList Try.prog ops Q rest (a.put o.dst v1) w1) :
  wpList Try.prog ops Q (o :: rest) a W :=
 Kd.R_append_rows kEv base hgd s x _ _ _ 16 ho Try.underlying31 info_ev rfl (by show 0 < 2; omega) (by omega) v l ys A m c (fun _ => True) (fun _ => False) hs hx HO.R HR.row (fun x cs h => h) (fun _ h => h.elim) (fun _ _ => trivial) HB hbase (by omega) fun v1 w1 hr => h v1 w1 (EvO.of_R hr)
end
theorem eql_nil_ev (w : World) (a : Option Addr) (n c : Nat) : (binOp .eql 31 (.slice a n c) (.slice none 0 0)).run Try.prog w = .ok (.bool a.isNone) w := by
 exact Go.Lib.run_eql_slice_nil (h := Try.underlying31) ..
attribute [local go_sem] eql_nil_ev
theorem EvO.lit0 (w : World) : EvO (w.alloc (.cells #[] 40)) w.heap.size (.slice (some ⟨w.heap.size, 0, none⟩) 0 0) 0 [] := ⟨by
 have h := World.ownsRow_lit (base := w.heap.size) (e := 40) (size := 2) w #[] 0 (Nat.le_refl _) (by simp [maxLen]) (by simp)
 exact h⟩
theorem cloneEvs (A : Option Addr) (n c : Nat) (l : List Ev) (w : World) (r : EvR w A n l) (hn : n ≤ 1000000000) :
  Calls Try.prog 40 #[.slice A n c] w fun e w' => ∃ v, e = .returned v ∧ EvO w' w.heap.size v n l ∧ Bw w w' := by
 have hl := r.len
 cases A with
 | none =>
  have h0 : n = 0 := by
   rcases Nat.eq_zero_or_pos n with h | h
   ·exact h
   ·obtain ⟨ad, e, _⟩ := r.at 0 h
    cases e
  subst h0
  obtain rfl : l = [] := List.eq_nil_of_length_eq_zero hl
  go_enter Try.func40, Try.ntmps40
  go_wp2
  go_ret
  exact ⟨_, rfl, FO.nil _ _ _ _, Bw.refl _⟩
 | some ad =>
  have o6 := EvO.lit0 w
  have b1 : Bw w (w.alloc (.cells #[] 40)) := (Bw.refl w).alloc _
  have r1 := r.to b1
  go_enter Try.func40, Try.ntmps40
  go_wp2_with (at_builtin; refine appendEvs (w0 := w) w.heap.size rfl _ _ rfl (.slice (some ⟨w.heap.size, 0, none⟩) 0 0) [] l (some ad) n c rfl rfl o6 r1 b1.out b1.size (by simp; omega) ?_; intro v1 w3 hown1 hB1 hg1 _)
  go_ret
  exact ⟨_, rfl, by rw [List.nil_append, hl] at hown1; exact hown1, ⟨hB1⟩⟩
end Go.Proofs.Ytkendhkaheoinaa.U
