
/- The laws' sameInts over two slices that read alike; the laws' big. -/
import Derived.Test.YtkhjkcefkampkaaAp
import Derived.Test.YtkhjkcefkampkaaG1
import Derived.Test.YtkhjkcefkampkaaCf
import Derived.Test.YtkhjkcefkampkaaSm
set_option linter.unusedVariables false
set_option linter.unusedSimpArgs false
namespace Go.Proofs.Ytkhjkcefkampkaa.U
open Go.RowKit Go.Lib Go.Proofs.YtkhjkcefkampkaaW.PrintWords
end Go.Proofs.Ytkhjkcefkampkaa.U
set_option linter.unusedVariables false
set_option linter.unusedSimpArgs false
namespace Go.Proofs.Ytkhjkcefkampkaa.U
open Go.RowKit Go.Lib Go.Proofs.YtkhjkcefkampkaaW.PrintWords
theorem oi_store {w : World} {base n c g : Nat} {l : List Int} (h : OI w base (.slice (some ⟨g, 0, none⟩) n c) n l) (j : Nat) (x : Int) : OI (w.setCell ⟨g, j, none⟩ (.int .i64 x)) base (.slice (some ⟨g, 0, none⟩) n c) n (l.set j x) := by
 have hs := (own_store h.out (j : Int) x).1
 rw [Int.toNat_natCast] at hs
 exact ⟨hs⟩
theorem oi_cell {w : World} {base n c g : Nat} {l : List Int} (h : OI w base (.slice (some ⟨g, 0, none⟩) n c) n l) (j : Nat) (hj : j < n) : w.cell? ⟨g, j, none⟩ = some (.int .i64 (rd l (j : Int))) ∧ w.frozen? ⟨g, j, none⟩ = false := by
 have hl := h.len
 have h2 := own_at h.out (j : Int) (by omega) (by omega)
 rw [Int.toNat_natCast] at h2
 obtain ⟨ad, e, hc⟩ := h.ri.nat j hj
 obtain rfl := Option.some.inj e
 have e2 : (⟨g, 0, none⟩ : Addr).add j = ⟨g, j, none⟩ := by
  rcases Nat.eq_zero_or_pos j with h0 | h0
  ·subst h0; simp [Addr.add]
  ·rw [add_pos _ _ h0]; simp
 rw [e2] at hc
 exact ⟨hc, h2.2⟩
end Go.Proofs.Ytkhjkcefkampkaa.U
set_option linter.unusedVariables false
set_option linter.unusedSimpArgs false
namespace Go.Proofs.Ytkhjkcefkampkaa.U
open Go.RowKit Go.Lib Go.Proofs.YtkhjkcefkampkaaW.PrintWords
end Go.Proofs.Ytkhjkcefkampkaa.U
set_option linter.unusedVariables false
set_option linter.unusedSimpArgs false
namespace Go.Proofs.Ytkhjkcefkampkaa.U
open Go.RowKit Go.Lib Go.Proofs.YtkhjkcefkampkaaW.PrintWords
def wOk (l : List Int) : Bool := decide (l.length ≤ 1000) && l.all (fun x => inR x 0 1000000)
theorem wOk_iff {l : List Int} : wOk l = true ↔ l.length ≤ 1000 ∧ ∀ x ∈ l, 0 ≤ x ∧ x ≤ 1000000 := by simp [wOk, inR_iff]
end Go.Proofs.Ytkhjkcefkampkaa.U
set_option linter.unusedVariables false
set_option linter.unusedSimpArgs false
namespace Go.Proofs.Ytkhjkcefkampkaa.U
open Go.RowKit Go.Lib Go.Proofs.YtkhjkcefkampkaaW.PrintWords
attribute [local go_sem] go_max2 go_min2
end Go.Proofs.Ytkhjkcefkampkaa.U
set_option linter.unusedVariables false
set_option linter.unusedSimpArgs false
namespace Go.Proofs.Ytkhjkcefkampkaa.U
open Go.RowKit Go.Lib Go.Proofs.YtkhjkcefkampkaaW.PrintWords
attribute [local go_sem] go_max2 go_min2
def cutTo (l : List Int) (most : Int) : Nat → List Int × Int
 | 0 => ([0], 0)
 | k + 1 => if most < (cutTo l most k).2 + rd l (k : Int) then ((cutTo l most k).1 ++ [(k : Int)], rd l (k : Int)) else ((cutTo l most k).1, (cutTo l most k).2 + rd l (k : Int))
def cutsL (l : List Int) (most : Int) : List Int := (cutTo l most l.length).1 ++ [(l.length : Int)]
theorem cutTo_over {l : List Int} {most : Int} {k : Nat} (h : most < (cutTo l most k).2 + rd l (k : Int)) : cutTo l most (k + 1) = ((cutTo l most k).1 ++ [(k : Int)], rd l (k : Int)) := by rw [cutTo, if_pos h]
theorem cutTo_fits {l : List Int} {most : Int} {k : Nat} (h : ¬ most < (cutTo l most k).2 + rd l (k : Int)) : cutTo l most (k + 1) = ((cutTo l most k).1, (cutTo l most k).2 + rd l (k : Int)) := by rw [cutTo, if_neg h]
theorem wOk_at {l : List Int} (h : wOk l = true) (k : Nat) (hk : k < l.length) : 0 ≤ rd l (k : Int) ∧ rd l (k : Int) ≤ 1000000 := by
 rw [rd_nat, List.getD_eq_getElem?_getD, List.getElem?_eq_getElem hk]
 exact (wOk_iff.1 h).2 _ (List.getElem_mem hk)
def fits (l : List Int) (most : Int) : Bool := l.all (fun x => decide (x ≤ most))
theorem fits_yes (l : List Int) (most : Int) (n : Nat) (hn : l.length = n) (h : ∀ j, j < n → rd l (j : Int) ≤ most) : fits l most = true := all_at l _ n hn (fun j hj => decide_eq_true (h j hj))
theorem fits_no (l : List Int) (most : Int) (k : Nat) (hk : k < l.length) (h : most < rd l (k : Int)) : fits l most = false := not_all_at l (fun x => decide (x ≤ most)) k hk (decide_eq_false (by omega))
theorem fits_at {l : List Int} {most : Int} (h : fits l most = true) (k : Nat) (hk : k < l.length) : rd l (k : Int) ≤ most := by
 rcases Int.lt_or_le most (rd l (k : Int)) with h1 | h1
 ·rw [fits_no l most k hk h1] at h; cases h
 ·exact h1
end Go.Proofs.Ytkhjkcefkampkaa.U
set_option linter.unusedVariables false
set_option linter.unusedSimpArgs false
namespace Go.Proofs.Ytkhjkcefkampkaa.U
open Go.RowKit Go.Lib Go.Proofs.YtkhjkcefkampkaaW.PrintWords
def psum (l : List Int) (k : Nat) : Int := (l.take k).sum
theorem psum_succ {l : List Int} {k : Nat} (hk : k < l.length) : psum l (k + 1) = psum l k + rd l (k : Int) := sum_snoc l k hk
theorem psum_add {l : List Int} (hw : wOk l = true) : ∀ (d k : Nat), k + d ≤ l.length → psum l k ≤ psum l (k + d)
 | 0, k, _ => Int.le_refl _
 | d + 1, k, h => by
  have h1 := psum_add hw d k (by omega)
  have h2 := psum_succ (l := l) (k := k + d) (by omega)
  have h3 := wOk_at hw (k + d) (by omega)
  rw [show k + (d + 1) = k + d + 1 by omega]
  omega
theorem psum_mono {l : List Int} (hw : wOk l = true) {a b : Nat} (h : a ≤ b) (hb : b ≤ l.length) : psum l a ≤ psum l b := by
 have := psum_add hw (b - a) a (by omega)
 rwa [show a + (b - a) = b by omega] at this
theorem rdl_lt (l m : List Int) (i : Nat) (h : i < l.length) : rd (l ++ m) (i : Int) = rd l (i : Int) := by
 rw [rd_nat, rd_nat, List.getD_eq_getElem?_getD, List.getD_eq_getElem?_getD, List.getElem?_append_left h]
theorem rdl_eq (l : List Int) (x : Int) : rd (l ++ [x]) (l.length : Int) = x := by
 rw [rd_nat, List.getD_eq_getElem?_getD]
 simp
structure Good (l : List Int) (m : Int) (C : List Int) (e : Nat) : Prop where
 pos : 1 ≤ C.length
 first : rd C ((0 : Nat) : Int) = 0
 last : rd C ((C.length - 1 : Nat) : Int) = e
 step : ∀ i, i + 1 < C.length → 0 ≤ rd C (i : Int) ∧ rd C (i : Int) ≤ rd C ((i + 1 : Nat) : Int) ∧ psum l (rd C ((i + 1 : Nat) : Int)).toNat - psum l (rd C (i : Int)).toNat ≤ m
theorem Good.app {l : List Int} {m : Int} {C : List Int} {e e' : Nat} (h : Good l m C e) (hle : e ≤ e') (hm : psum l e' - psum l e ≤ m) : Good l m (C ++ [(e' : Int)]) e' where
 pos := by simp
 first := by rw [rdl_lt _ _ 0 h.pos, h.first]
 last := by rw [List.length_append, List.length_singleton, Nat.add_sub_cancel, rdl_eq]
 step := fun i hi => by
  rw [List.length_append, List.length_singleton] at hi
  by_cases h1 : i + 1 < C.length
  ·rw [rdl_lt _ _ i (by omega), rdl_lt _ _ (i + 1) h1]
   exact h.step i h1
  ·have e1 : i + 1 = C.length := by omega
   have hl := h.last
   rw [← e1, Nat.add_sub_cancel] at hl
   rw [rdl_lt _ _ i (by omega), e1, rdl_eq, hl]
   refine ⟨by omega, by omega, ?_⟩
   rw [Int.toNat_natCast, Int.toNat_natCast]
   exact hm
theorem Good.up {l : List Int} {m m' : Int} {C : List Int} {e : Nat} (h : Good l m C e) (hm : m ≤ m') : Good l m' C e := ⟨h.pos, h.first, h.last, fun i hi => by have := h.step i hi; omega⟩
theorem Good.le {l : List Int} {m : Int} {C : List Int} {e : Nat} (h : Good l m C e) : ∀ (d i : Nat), i + d = C.length - 1 → 0 ≤ rd C (i : Int) ∧ rd C (i : Int) ≤ e
 | 0, i, hi => by
  have := h.last
  rw [← hi, Nat.add_zero] at this
  omega
 | d + 1, i, hi => by
  have h1 := h.step i (by omega)
  have h2 := h.le d (i + 1) (by omega)
  omega
theorem Good.at {l : List Int} {m : Int} {C : List Int} {e : Nat} (h : Good l m C e) (i : Nat) (hi : i < C.length) : 0 ≤ rd C (i : Int) ∧ rd C (i : Int) ≤ e := h.le (C.length - 1 - i) i (by omega)
theorem cut_good {l : List Int} {m : Int} (hw : wOk l = true) (h0 : 0 ≤ m) (hf : fits l m = true) : ∀ k, k ≤ l.length → ∃ e, e ≤ k ∧ Good l m (cutTo l m k).1 e ∧ psum l k - psum l e = (cutTo l m k).2 ∧ (cutTo l m k).2 ≤ m
 | 0, _ => ⟨0, Nat.le_refl _, ⟨by simp [cutTo], by simp [cutTo, rd], by simp [cutTo, rd], fun i hi => by simp [cutTo] at hi⟩, by simp [cutTo], by simp only [cutTo]; omega⟩
 | k + 1, hk => by
  obtain ⟨e, he, hg, hs, hm⟩ := cut_good hw h0 hf k (by omega)
  have hx := fits_at hf k (by omega)
  have hp := psum_succ (l := l) (k := k) (by omega)
  by_cases hc : m < (cutTo l m k).2 + rd l (k : Int)
  ·rw [cutTo_over hc]
   exact ⟨k, by omega, hg.app he (by omega), by show psum l (k + 1) - psum l k = rd l (k : Int); omega, hx⟩
  ·rw [cutTo_fits hc]
   exact ⟨e, by omega, hg, by show psum l (k + 1) - psum l e = (cutTo l m k).2 + rd l (k : Int); omega, by show (cutTo l m k).2 + rd l (k : Int) ≤ m; omega⟩
theorem cutsL_good {l : List Int} {m : Int} (hw : wOk l = true) (h0 : 0 ≤ m) (hf : fits l m = true) : Good l m (cutsL l m) l.length := by
 obtain ⟨e, he, hg, hs, hm⟩ := cut_good hw h0 hf l.length (Nat.le_refl _)
 exact hg.app he (by omega)
def Ahead (l : List Int) (M : Int) (C : List Int) (j k : Nat) : Prop := (cutTo l M k).1.length ≤ j ∨ ((cutTo l M k).1.length = j + 1 ∧ (cutTo l M k).2 ≤ psum l k - psum l (rd C (j : Int)).toNat)
theorem ahead_in {l : List Int} {M : Int} {C : List Int} (hw : wOk l = true) (hg : Good l M C l.length) (j : Nat) (hj : j + 1 < C.length) (h : Ahead l M C j (rd C (j : Int)).toNat) :
  ∀ d, (rd C (j : Int)).toNat + d ≤ (rd C ((j + 1 : Nat) : Int)).toNat → Ahead l M C j ((rd C (j : Int)).toNat + d)
 | 0, _ => h
 | d + 1, hd => by
  have ih := ahead_in hw hg j hj h d (by omega)
  have h1 := hg.step j hj
  have h2 := hg.at (j + 1) hj
  unfold Ahead at ih ⊢
  generalize ha : (rd C (j : Int)).toNat = a at *
  rw [show a + (d + 1) = a + d + 1 by omega]
  have hk : a + d < l.length := by omega
  have hx := wOk_at hw (a + d) hk
  have hp := psum_succ hk
  have hp1 := psum_mono hw (a := a) (b := a + d) (by omega) (by omega)
  have hp2 := psum_mono hw (a := a + d + 1) (b := (rd C ((j + 1 : Nat) : Int)).toNat) (by omega) (by omega)
  by_cases hc : M < (cutTo l M (a + d)).2 + rd l ((a + d : Nat) : Int)
  ·rw [cutTo_over hc]
   rcases ih with ih | ⟨ih1, ih2⟩
   ·by_cases e : (cutTo l M (a + d)).1.length = j
    ·right
     refine ⟨by simp [e], ?_⟩
     show rd l ((a + d : Nat) : Int) ≤ _
     omega
    ·left
     simp
     omega
   ·omega
  ·rw [cutTo_fits hc]
   rcases ih with ih | ⟨ih1, ih2⟩
   ·exact .inl ih
   ·right
    refine ⟨ih1, ?_⟩
    show (cutTo l M (a + d)).2 + rd l ((a + d : Nat) : Int) ≤ _
    omega
theorem ahead_cut {l : List Int} {M : Int} {C : List Int} (hw : wOk l = true) (hg : Good l M C l.length) : ∀ j, j < C.length → Ahead l M C j (rd C (j : Int)).toNat ∧ (1 ≤ j → (cutTo l M (rd C (j : Int)).toNat).1.length ≤ j)
 | 0, _ => by
  refine ⟨?_, by omega⟩
  unfold Ahead
  rw [hg.first]
  right
  simp [cutTo]
 | j + 1, hj => by
  have h1 := hg.step j hj
  have ih := ahead_in hw hg j hj (ahead_cut hw hg j (by omega)).1 ((rd C ((j + 1 : Nat) : Int)).toNat - (rd C (j : Int)).toNat) (by omega)
  rw [show (rd C (j : Int)).toNat + ((rd C ((j + 1 : Nat) : Int)).toNat - (rd C (j : Int)).toNat) = (rd C ((j + 1 : Nat) : Int)).toNat by omega] at ih
  have h2 : (cutTo l M (rd C ((j + 1 : Nat) : Int)).toNat).1.length ≤ j + 1 := by
   unfold Ahead at ih
   omega
  exact ⟨.inl h2, fun _ => h2⟩
theorem good_fits {l : List Int} {M : Int} {C : List Int} (hw : wOk l = true) (hg : Good l M C l.length) : ∀ j, j < C.length → ∀ k, k < (rd C (j : Int)).toNat → rd l (k : Int) ≤ M
 | 0, _, k, hk => by rw [hg.first] at hk; simp at hk
 | j + 1, hj, k, hk => by
  have h1 := hg.step j hj
  have h2 := hg.at (j + 1) hj
  by_cases hc : k < (rd C (j : Int)).toNat
  ·exact good_fits hw hg j (by omega) k hc
  ·have hp := psum_succ (l := l) (k := k) (by omega)
   have hp1 := psum_mono hw (a := (rd C (j : Int)).toNat) (b := k) (by omega) (by omega)
   have hp2 := psum_mono hw (a := k + 1) (b := (rd C ((j + 1 : Nat) : Int)).toNat) (by omega) (by omega)
   omega
def Enough (l : List Int) (m : Int) (k : Nat) : Prop := fits l m = true ∧ (cutsL l m).length ≤ k + 1
theorem good_enough {l : List Int} {M : Int} {C : List Int} (hw : wOk l = true) (hn : l.length ≠ 0) (hg : Good l M C l.length) (k : Nat) (hk : C.length ≤ k + 1) : Enough l M k := by
 have hlast := hg.last
 have hp := hg.pos
 have h2 : 2 ≤ C.length := by
  rcases Nat.lt_or_ge C.length 2 with h | h
  ·have e : C.length - 1 = 0 := by omega
   rw [e, hg.first] at hlast
   omega
  ·exact h
 refine ⟨fits_yes l M l.length rfl (fun j hj => good_fits hw hg (C.length - 1) (by omega) j (by rw [hlast]; simpa using hj)), ?_⟩
 have := (ahead_cut hw hg (C.length - 1) (by omega)).2 (by omega)
 rw [hlast, Int.toNat_natCast] at this
 unfold cutsL
 simp
 omega
theorem fits_nn {l : List Int} {m : Int} (hw : wOk l = true) (hn : l.length ≠ 0) (h : fits l m = true) : 0 ≤ m := by
 have h1 := fits_at h 0 (by omega)
 have h2 := wOk_at hw 0 (by omega)
 omega
theorem Enough.up {l : List Int} {x y : Int} {k : Nat} (hw : wOk l = true) (hn : l.length ≠ 0) (h : Enough l x k) (hxy : x ≤ y) : Enough l y k :=
 good_enough hw hn ((cutsL_good hw (fits_nn hw hn h.1) h.1).up hxy) k h.2
end Go.Proofs.Ytkhjkcefkampkaa.U
set_option linter.unusedVariables false
set_option linter.unusedSimpArgs false
namespace Go.Proofs.Ytkhjkcefkampkaa.U
open Go.RowKit Go.Lib Go.Proofs.YtkhjkcefkampkaaW.PrintWords
end Go.Proofs.Ytkhjkcefkampkaa.U
set_option linter.unusedVariables false
set_option linter.unusedSimpArgs false
namespace Go.Proofs.Ytkhjkcefkampkaa.U
open Go.RowKit Go.Lib Go.Proofs.YtkhjkcefkampkaaW.PrintWords
end Go.Proofs.Ytkhjkcefkampkaa.U
set_option linter.unusedVariables false
set_option linter.unusedSimpArgs false
namespace Go.Proofs.Ytkhjkcefkampkaa.U
open Go.RowKit Go.Lib Go.Proofs.YtkhjkcefkampkaaW.PrintWords
end Go.Proofs.Ytkhjkcefkampkaa.U
