
/- From what an argument reads as to the kinds of its cells: whole numbers, slices, structs, to any depth. -/
import Derived.Test.YtaidbdogolhnjaaWMore
import Derived.ChangeArms
import Derived.ChangeShapes
import Derived.WideShapes
import Derived.Deep.Slices
import Derived.Test.YtaidbdogolhnjaaVw
import Derived.Test.YtaidbdogolhnjaaG22
import Derived.Test.YtaidbdogolhnjaaG4
set_option linter.unusedVariables false
set_option linter.unusedSimpArgs false
namespace Go.Proofs.Ytaidbdogolhnjaa.Op
open Go.RowKit Go.ChangeShapes Go.WideShapes Go.Proofs.YtaidbdogolhnjaaW.PrintWords Go.Proofs.YtaidbdogolhnjaaW.PrintLast Go.Proofs.YtaidbdogolhnjaaW.PrintMore

theorem wf_i64 {x : Int} (h : (Lit.int .i64 x).wf = true) : -9223372036854775808 ≤ x ∧ x ≤ 9223372036854775807 := by
  have := h
  simp [Lit.wf, IntKind.min, IntKind.max, IntKind.signed, IntKind.bits] at this
  omega
/-- What reads as data of type t has cells of kind d, of a value that is wf. -/
def Opens (P : Program) {α : Type} (d : Kd α) (t : TypeId) (wf : α → Prop) : Prop :=
  ∀ {H : Type} {enc : TypeId × Value → H} {w : World} {base : Nat} {spare : Nat → Bool} {held : Bool} {fuel : Nat} {cs : List Value} {x : DataW H × List MemPlace},
    DataW.trod enc P w base spare held fuel t cs = some x → ∃ a, d.K w a cs ∧ wf a
def Int64 (x : Int) : Prop := -9223372036854775808 ≤ x ∧ x ≤ 9223372036854775807
theorem opens_int {P : Program} {t : TypeId} (ht : P.underlying t = some (.int .i64)) : Opens P (Kd.int .i64) t Int64 := by
  intro H enc w base spare held fuel cs x h
  obtain ⟨n, rfl, _, hw⟩ := DataW.trod_int ht h
  exact ⟨n, rfl, wf_i64 hw⟩
theorem list_choose {α : Type} (Q : Nat → α → Prop) : ∀ n : Nat, (∀ i, i < n → ∃ p, Q i p) → ∃ l : List α, l.length = n ∧ ∀ i p, l[i]? = some p → Q i p
  | 0, _ => ⟨[], rfl, fun i p h => by simp at h⟩
  | n + 1, h => by
    obtain ⟨l, hl, hq⟩ := list_choose Q n (fun i hi => h i (by omega))
    obtain ⟨p, hp⟩ := h n (by omega)
    refine ⟨l ++ [p], by simp [hl], fun i q hi => ?_⟩
    by_cases h1 : i < n
    · rw [List.getElem?_append_left (by omega)] at hi
      exact hq i q hi
    · rw [List.getElem?_append_right (by omega)] at hi
      have h2 : i - l.length = 0 := by
        rcases Nat.eq_zero_or_pos (i - l.length) with h3 | h3
        · exact h3
        · rw [List.getElem?_eq_none (by simp; omega)] at hi
          cases hi
      rw [h2] at hi
      simp at hi
      subst hi
      have : i = n := by omega
      rw [this]
      exact hp
theorem opens_slice {P : Program} {α : Type} {d : Kd α} {t e : TypeId} {wf : α → Prop} (ht : P.underlying t = some (.slice e)) (hs : P.cellsOf e = d.sz) (hd : Opens P d e wf) (e' : Nat) :
    Opens P (Kd.slice e' d) t (fun l => ∀ x ∈ l, wf x) := by
  intro H enc w base spare held fuel cs x h
  rcases DataW.trod_slice ht h with ⟨rfl, _⟩ | ⟨a, len, cap, elems, rest, n, _, rfl, _, hb, hl, hm, hlen, hel, _⟩
  · exact ⟨[], ⟨none, 0, rfl, Nat.le_refl _, Kd.C_nil d w⟩, by simp⟩
  · obtain ⟨l, hll, hq⟩ := list_choose (fun i (p : α) => ∃ cs', w.cells? base (a.add (i * P.cellsOf e)) (P.cellsOf e) = some cs' ∧ d.K w p cs' ∧ wf p) len (fun i hi => by
      have h1 := hel i hi
      rw [List.getElem?_eq_getElem (by omega)] at h1
      obtain ⟨cs', h2, h3⟩ := Option.bind_eq_some_iff.1 h1
      obtain ⟨p, hp, hw⟩ := hd h3
      exact ⟨p, cs', h2, hp, hw⟩)
    refine ⟨l, ⟨some a, cap, by rw [hll], by omega, rfl, by have : maxLen = 9223372036854775807 := rfl; omega, fun _ => ⟨a, rfl, fun j p hp => ?_⟩⟩, fun p hp => ?_⟩
    · obtain ⟨cs', h1, h2, _⟩ := hq j p hp
      obtain ⟨_, h3, h4⟩ := World.cells?_some h1
      refine ⟨cs', d.K_len h2, h2, fun i u hu => ?_⟩
      have hi : i < P.cellsOf e := by
        rcases Nat.lt_or_ge i (P.cellsOf e) with h5 | h5
        · exact h5
        · rw [List.getElem?_eq_none (by omega)] at hu
          cases hu
      have := h4 i hi
      rw [hu, Addr.add_add, hs] at this
      exact this
    · obtain ⟨j, hj, rfl⟩ := List.getElem_of_mem hp
      obtain ⟨_, _, _, h3⟩ := hq j _ (List.getElem?_eq_getElem hj)
      exact h3
/-- .. of the fields fs of a struct, from offset off on. -/
def OpensF (P : Program) {α : Type} (d : Kd α) (fs : List Field) (off : Nat) (wf : α → Prop) : Prop :=
  ∀ {H : Type} {enc : TypeId × Value → H} {w : World} {base : Nat} {spare : Nat → Bool} {held : Bool} {cs : List Value},
    (∀ f ∈ fs, ∃ n y, DataW.trod enc P w base spare held n f.type ((cs.drop f.offset).take (P.cellsOf f.type)) = some y) → ∃ a, d.K w a ((cs.drop off).take d.sz) ∧ wf a
theorem opensF_one {P : Program} {α : Type} {d : Kd α} {f : Field} {off : Nat} {wf : α → Prop} (hs : P.cellsOf f.type = d.sz) (ho : f.offset = off) (h : Opens P d f.type wf) : OpensF P d [f] off wf := by
  intro H enc w base spare held cs hc
  obtain ⟨n, y, hy⟩ := hc f (by simp)
  rw [hs, ho] at hy
  exact h hy
theorem opensF_cons {P : Program} {α β : Type} {a : Kd α} {b : Kd β} {f : Field} {fs : List Field} {off : Nat} {wf : α → Prop} {wf' : β → Prop} (hs : P.cellsOf f.type = a.sz) (ho : f.offset = off) (h : Opens P a f.type wf) (ht : OpensF P b fs (off + a.sz) wf') :
    OpensF P (Kd.pair a b) (f :: fs) off (fun x => wf x.1 ∧ wf' x.2) := by
  intro H enc w base spare held cs hc
  obtain ⟨n, y, hy⟩ := hc f (by simp)
  rw [hs, ho] at hy
  obtain ⟨x, hx, hwx⟩ := h hy
  obtain ⟨z, hz, hwz⟩ := ht (cs := cs) (fun g hg => hc g (by simp [hg]))
  refine ⟨(x, z), ⟨_, _, ?_, hx, hz⟩, hwx, hwz⟩
  show (cs.drop off).take (a.sz + b.sz) = _
  rw [List.take_add, List.drop_drop]
theorem opens_struct {P : Program} {α : Type} {d : Kd α} {t : TypeId} {fs : Array Field} {wf : α → Prop} (ht : P.underlying t = some (.struct fs)) (hc : P.cellsOf t = d.sz) (h : OpensF P d fs.toList 0 wf) : Opens P d t wf := by
  intro H enc w base spare held fuel cs x hx
  obtain ⟨xs, n, _, _, hl, hxs, hf⟩ := DataW.trod_struct ht hx
  obtain ⟨a, ha, hw⟩ := h (cs := cs) (fun f hf' => by
    obtain ⟨i, hi, rfl⟩ := List.getElem_of_mem hf'
    have h1 := hf i _ (by simpa using Array.getElem?_eq_getElem (by simpa using hi))
    rw [List.getElem?_eq_getElem (by simp at hi; omega)] at h1
    exact ⟨n, _, h1⟩)
  rw [List.drop_zero, List.take_of_length_le (by omega)] at ha
  exact ⟨a, ha, hw⟩
theorem opens_iso {P : Program} {α β : Type} {d : Kd α} {t : TypeId} {wf : α → Prop} (f : β → α) (mk : α → β) (hm : ∀ x, f (mk x) = x) (h : Opens P d t wf) : Opens P (Kd.iso d f) t (fun y => wf (f y)) := by
  intro H enc w base spare held fuel cs x hx
  obtain ⟨a, ha, hw⟩ := h hx
  exact ⟨mk a, by show d.K w (f (mk a)) cs; rw [hm]; exact ha, by show wf (f (mk a)); rw [hm]; exact hw⟩
end Go.Proofs.Ytaidbdogolhnjaa.Op
set_option linter.unusedVariables false
set_option linter.unusedSimpArgs false
namespace Go.Proofs.Ytaidbdogolhnjaa.U
open Go.RowKit Go.Lib Go.Proofs.YtaidbdogolhnjaaW.PrintWords

open Go.Proofs.YtaidbdogolhnjaaW.PrintLast Go.Proofs.YtaidbdogolhnjaaW.PrintMore
abbrev TC := Int × Int × Int
abbrev TV := Int × Int × List TC × List Int × List Int × List Int × List Int
abbrev kI : Kd Int := Kd.int .i64
abbrev kC : Kd TC := Kd.pair kI (Kd.pair kI kI)
abbrev kV : Kd TV := Kd.pair kI (Kd.pair kI (Kd.pair (Kd.slice 0 kC) (Kd.pair (Kd.slice 0 kI) (Kd.pair (Kd.slice 0 kI) (Kd.pair (Kd.slice 0 kI) (Kd.slice 0 kI))))))
def ceOf (p : TC) : Ce := ⟨p.1, p.2.1, p.2.2⟩
def vfOf (x : TV) : Vf := ⟨x.1, x.2.1, idF (x.2.2.1.map ceOf), x.2.2.2.1, x.2.2.2.2.1, x.2.2.2.2.2.1, x.2.2.2.2.2.2⟩
theorem RI.of_C {w : World} {A : Option Addr} {n : Nat} {l : List Int} (h : Kd.C kI w A n l) : RI w A n l := ⟨⟨h.1, h.2.1, fun hn => by
  obtain ⟨ad, e, hc⟩ := h.2.2 hn
  refine ⟨ad, e, fun j hj => ?_⟩
  have hl := h.1
  obtain ⟨cs, _, hk, hu⟩ := hc j (l.getD j 0) (by rw [List.getD_eq_getElem?_getD, List.getElem?_eq_getElem (by omega)]; rfl)
  have hk2 : cs = [.int .i64 (l.getD j 0)] := hk
  subst hk2
  have h0 : w.cell? (ad.add (j * 1 + 0)) = _ := hu 0 _ rfl
  rwa [Nat.mul_one, Nat.add_zero] at h0⟩⟩
theorem IdR.of_C {w : World} {A : Option Addr} {n : Nat} {l : List TC} (h : Kd.C kC w A n l) : IdR w A n (l.map ceOf) := ⟨⟨by rw [List.length_map]; exact h.1, h.2.1, fun hn => by
  obtain ⟨ad, e, hc⟩ := h.2.2 hn
  refine ⟨ad, e, fun j p hp => ?_⟩
  rw [List.getElem?_map, Option.map_eq_some_iff] at hp
  obtain ⟨q, hq, rfl⟩ := hp
  obtain ⟨cs, h3, hk, hu⟩ := hc j q hq
  obtain ⟨c0, c1, rfl, hk0, c2, c3, rfl, hk1, hk2⟩ := hk
  have e0 : c0 = [.int .i64 q.1] := hk0
  have e1 : c2 = [.int .i64 q.2.1] := hk1
  have e2 : c3 = [.int .i64 q.2.2] := hk2
  subst e0 e1 e2
  exact ⟨_, rfl, rfl, hu⟩⟩⟩
theorem VwR.of_C {w : World} {A : Option Addr} {n : Nat} {l : List TV} (h : Kd.C kV w A n l) : VwR w A n (l.map vfOf) := ⟨by rw [List.length_map]; exact h.1, h.2.1, fun hn => by
  obtain ⟨ad, e, hc⟩ := h.2.2 hn
  have hl := h.1
  refine ⟨ad, e, fun j hj => ?_⟩
  have hq : l[j]? = some l[j] := List.getElem?_eq_getElem (by omega)
  have hg : gv (l.map vfOf) j = vfOf l[j] := by rw [gv_at (by rw [List.length_map]; omega), List.getElem_map]
  rw [hg]
  obtain ⟨cs, _, hk, hu⟩ := hc j _ hq
  generalize l[j] = q at *
  obtain ⟨c0, c0', rfl, hk0, c1, c1', rfl, hk1, c2, c2', rfl, ⟨Al, cl, rfl, hcl, hCl⟩, c3, c3', rfl, ⟨Am, cm, rfl, hcm, hCm⟩, c4, c4', rfl, ⟨At, ct, rfl, hct, hCt⟩, c5, c5', rfl, ⟨Ab, cb, rfl, hcb, hCb⟩, ⟨Ag, cg, rfl, hcg, hCg⟩⟩ := hk
  have e0 : c0 = [.int .i64 q.1] := hk0
  have e1 : c1 = [.int .i64 q.2.1] := hk1
  subst e0 e1
  refine ⟨Al, _, cl, Am, _, cm, At, _, ct, Ab, _, cb, Ag, _, cg, ?_, ?_, ?_, ?_, ?_, ?_, ?_, ⟨hcl, hcm, hct, hcb, hcg⟩, ⟨(IdR.of_C hCl).fr, RI.of_C hCm, RI.of_C hCt, RI.of_C hCb, RI.of_C hCg⟩⟩
  · have h0 : w.cell? (ad.add (j * 7 + 0)) = _ := hu 0 _ rfl
    rwa [Nat.add_zero] at h0
  · have h0 : w.cell? (ad.add (j * 7 + 1)) = _ := hu 1 _ rfl
    rwa [add_field _ _ _ (by omega)] at h0
  · have h0 : w.cell? (ad.add (j * 7 + 2)) = _ := hu 2 _ rfl
    rwa [add_field _ _ _ (by omega)] at h0
  · have h0 : w.cell? (ad.add (j * 7 + 3)) = _ := hu 3 _ rfl
    rwa [add_field _ _ _ (by omega)] at h0
  · have h0 : w.cell? (ad.add (j * 7 + 4)) = _ := hu 4 _ rfl
    rwa [add_field _ _ _ (by omega)] at h0
  · have h0 : w.cell? (ad.add (j * 7 + 5)) = _ := hu 5 _ rfl
    rwa [add_field _ _ _ (by omega)] at h0
  · have h0 : w.cell? (ad.add (j * 7 + 6)) = _ := hu 6 _ rfl
    rwa [add_field _ _ _ (by omega)] at h0⟩
end Go.Proofs.Ytaidbdogolhnjaa.U
set_option linter.unusedVariables false
set_option linter.unusedSimpArgs false
namespace Go.Proofs.Ytaidbdogolhnjaa.U
open Go.RowKit Go.Lib Go.Proofs.YtaidbdogolhnjaaW.PrintWords

theorem staOk_len {ro : Int} {l : List Ce} {ms ts bd : List Int} (h : staOk ro l ms ts bd = true) : l.length ≤ 128 ∧ ms.length = l.length ∧ ts.length = l.length ∧ (bd.length : Int) ≤ 8 := by
  simp only [staOk, isBal, hasC, Bool.and_eq_true, decide_eq_true_iff] at h
  obtain ⟨⟨h1, _⟩, ⟨⟨⟨⟨h2, h3⟩, h4⟩, _⟩, _⟩, _⟩ := h
  have := meshOk_len h1
  exact ⟨this.1, h2, h3, by omega⟩
theorem joinS_small (L : List Vf) : stz (joinS L) ≤ 1000000 := by
  rw [joinS]
  split
  · rename_i h
    simp only [joinOk, Bool.and_eq_true] at h
    have := staOk_len h.2
    simp only [stz]
    omega
  · simp [stz, sta0]
theorem short_of {L : List Vf} {n : Nat} (hl : L.length = n) (hn : n + szTo L n ≤ 1048576) : Short L := ⟨fun i hi => by
  have := szTo_le L n i (by omega)
  rw [vsz] at this
  omega⟩
theorem offs_le (L : List Vf) (h3 : ∀ x ∈ L, x.lf.length % 3 = 0) : ∀ n, n ≤ L.length → offs L n ≤ 2 * n + 3 * szTo L n
  | 0, _ => by simp [offs]
  | n + 1, h => by
    have ih := offs_le L h3 n (by omega)
    have hm : gv L n ∈ L := by rw [gv_at (by omega)]; exact List.getElem_mem _
    have := h3 _ hm
    rw [offs, szTo, msz, vsz]
    omega
theorem offs_of {w : World} {A : Option Addr} {n : Nat} {L : List Vf} (r : VwR w A n L) (hn : n + szTo L n ≤ 1048576) : offs L n ≤ 1000000000 := by
  have := offs_le L r.thirds n (by rw [r.len]; omega)
  omega
end Go.Proofs.Ytaidbdogolhnjaa.U
