
/- From what an argument reads as to the kinds of its cells: whole numbers, slices, structs, to any depth. -/
import Derived.Test.YtkhjkcefkampkaaWMore
import Derived.ChangeArms
import Derived.ChangeShapes
import Derived.WideShapes
import Derived.Deep.Slices
set_option linter.unusedVariables false
set_option linter.unusedSimpArgs false
namespace Go.Proofs.Ytkhjkcefkampkaa.Op
open Go.RowKit Go.ChangeShapes Go.WideShapes Go.Proofs.YtkhjkcefkampkaaW.PrintWords Go.Proofs.YtkhjkcefkampkaaW.PrintLast Go.Proofs.YtkhjkcefkampkaaW.PrintMore
theorem wf_i64 {x : Int} (h : (Lit.int .i64 x).wf = true) : -9223372036854775808 ≤ x ∧ x ≤ 9223372036854775807 := by
 have := h
 simp [Lit.wf, IntKind.min, IntKind.max, IntKind.signed, IntKind.bits] at this
 omega
def Opens (P : Program) {α : Type} (d : Kd α) (t : TypeId) (wf : α → Prop) : Prop :=
 ∀ {H : Type} {enc : TypeId × Value → H} {w : World} {base : Nat} {spare : Nat → Bool} {held : Bool} {fuel : Nat} {cs : List Value} {x : DataW H × List MemPlace},
  DataW.trod enc P w base spare held fuel t cs = some x → ∃ a, d.K w a cs ∧ wf a
def Int64 (x : Int) : Prop := -9223372036854775808 ≤ x ∧ x ≤ 9223372036854775807
theorem opens_int {P : Program} {t : TypeId} (ht : P.underlying t = some (.int .i64)) : Opens P (Kd.int .i64) t Int64 := by
 intro H enc w base spare held fuel cs x h
 obtain ⟨n, rfl, _, hw⟩ := DataW.trod_int ht h
 exact ⟨n, rfl, wf_i64 hw⟩
theorem list_choose {α : Type} (Q : Nat → α → Prop) : ∀ n : Nat, (∀ i, i < n → ∃ p, Q i p) → ∃ l : List α, l.length = n ∧ ∀ i p, l[i]? = some p → Q i p
 | 0, _ => ⟨[], rfl, fun i p h => by simp at h⟩
 | n + 1, h => by
  obtain ⟨l, hl, hq⟩ := list_choose Q n (fun i hi => h i (by omega))
  obtain ⟨p, hp⟩ := h n (by omega)
  refine ⟨l ++ [p], by simp [hl], fun i q hi => ?_⟩
  by_cases h1 : i < n
  ·rw [List.getElem?_append_left (by omega)] at hi
   exact hq i q hi
  ·rw [List.getElem?_append_right (by omega)] at hi
   have h2 : i - l.length = 0 := by
    rcases Nat.eq_zero_or_pos (i - l.length) with h3 | h3
    ·exact h3
    ·rw [List.getElem?_eq_none (by simp; omega)] at hi
     cases hi
   rw [h2] at hi
   simp at hi
   subst hi
   have : i = n := by omega
   rw [this]
   exact hp
theorem opens_slice {P : Program} {α : Type} {d : Kd α} {t e : TypeId} {wf : α → Prop} (ht : P.underlying t = some (.slice e)) (hs : P.cellsOf e = d.sz) (hd : Opens P d e wf) (e' : Nat) :
  Opens P (Kd.slice e' d) t (fun l => ∀ x ∈ l, wf x) := by
 intro H enc w base spare held fuel cs x h
 rcases DataW.trod_slice ht h with ⟨rfl, _⟩ | ⟨a, len, cap, elems, rest, n, _, rfl, _, hb, hl, hm, hlen, hel, _⟩
 ·exact ⟨[], ⟨none, 0, rfl, Nat.le_refl _, Kd.C_nil d w⟩, by simp⟩
 ·obtain ⟨l, hll, hq⟩ := list_choose (fun i (p : α) => ∃ cs', w.cells? base (a.add (i * P.cellsOf e)) (P.cellsOf e) = some cs' ∧ d.K w p cs' ∧ wf p) len (fun i hi => by
   have h1 := hel i hi
   rw [List.getElem?_eq_getElem (by omega)] at h1
   obtain ⟨cs', h2, h3⟩ := Option.bind_eq_some_iff.1 h1
   obtain ⟨p, hp, hw⟩ := hd h3
   exact ⟨p, cs', h2, hp, hw⟩)
  refine ⟨l, ⟨some a, cap, by rw [hll], by omega, rfl, by have : maxLen = 9223372036854775807 := rfl; omega, fun _ => ⟨a, rfl, fun j p hp => ?_⟩⟩, fun p hp => ?_⟩
  ·obtain ⟨cs', h1, h2, _⟩ := hq j p hp
   obtain ⟨_, h3, h4⟩ := World.cells?_some h1
   refine ⟨cs', d.K_len h2, h2, fun i u hu => ?_⟩
   have hi : i < P.cellsOf e := by
    rcases Nat.lt_or_ge i (P.cellsOf e) with h5 | h5
    ·exact h5
    ·rw [List.getElem?_eq_none (by omega)] at hu
     cases hu
   have := h4 i hi
   rw [hu, Addr.add_add, hs] at this
   exact this
  ·obtain ⟨j, hj, rfl⟩ := List.getElem_of_mem hp
   obtain ⟨_, _, _, h3⟩ := hq j _ (List.getElem?_eq_getElem hj)
   exact h3
def OpensF (P : Program) {α : Type} (d : Kd α) (fs : List Field) (off : Nat) (wf : α → Prop) : Prop :=
 ∀ {H : Type} {enc : TypeId × Value → H} {w : World} {base : Nat} {spare : Nat → Bool} {held : Bool} {cs : List Value},
  (∀ f ∈ fs, ∃ n y, DataW.trod enc P w base spare held n f.type ((cs.drop f.offset).take (P.cellsOf f.type)) = some y) → ∃ a, d.K w a ((cs.drop off).take d.sz) ∧ wf a
theorem opensF_one {P : Program} {α : Type} {d : Kd α} {f : Field} {off : Nat} {wf : α → Prop} (hs : P.cellsOf f.type = d.sz) (ho : f.offset = off) (h : Opens P d f.type wf) : OpensF P d [f] off wf := by
 intro H enc w base spare held cs hc
 obtain ⟨n, y, hy⟩ := hc f (by simp)
 rw [hs, ho] at hy
 exact h hy
theorem opensF_cons {P : Program} {α β : Type} {a : Kd α} {b : Kd β} {f : Field} {fs : List Field} {off : Nat} {wf : α → Prop} {wf' : β → Prop} (hs : P.cellsOf f.type = a.sz) (ho : f.offset = off) (h : Opens P a f.type wf) (ht : OpensF P b fs (off + a.sz) wf') :
  OpensF P (Kd.pair a b) (f :: fs) off (fun x => wf x.1 ∧ wf' x.2) := by
 intro H enc w base spare held cs hc
 obtain ⟨n, y, hy⟩ := hc f (by simp)
 rw [hs, ho] at hy
 obtain ⟨x, hx, hwx⟩ := h hy
 obtain ⟨z, hz, hwz⟩ := ht (cs := cs) (fun g hg => hc g (by simp [hg]))
 refine ⟨(x, z), ⟨_, _, ?_, hx, hz⟩, hwx, hwz⟩
 show (cs.drop off).take (a.sz + b.sz) = _
 rw [List.take_add, List.drop_drop]
theorem opens_struct {P : Program} {α : Type} {d : Kd α} {t : TypeId} {fs : Array Field} {wf : α → Prop} (ht : P.underlying t = some (.struct fs)) (hc : P.cellsOf t = d.sz) (h : OpensF P d fs.toList 0 wf) : Opens P d t wf := by
 intro H enc w base spare held fuel cs x hx
 obtain ⟨xs, n, _, _, hl, hxs, hf⟩ := DataW.trod_struct ht hx
 obtain ⟨a, ha, hw⟩ := h (cs := cs) (fun f hf' => by
  obtain ⟨i, hi, rfl⟩ := List.getElem_of_mem hf'
  have h1 := hf i _ (by simpa using Array.getElem?_eq_getElem (by simpa using hi))
  rw [List.getElem?_eq_getElem (by simp at hi; omega)] at h1
  exact ⟨n, _, h1⟩)
 rw [List.drop_zero, List.take_of_length_le (by omega)] at ha
 exact ⟨a, ha, hw⟩
end Go.Proofs.Ytkhjkcefkampkaa.Op
