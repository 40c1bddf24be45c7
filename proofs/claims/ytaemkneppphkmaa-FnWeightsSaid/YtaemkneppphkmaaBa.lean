
/- Greedy cuts are the best: plain law of partitions. -/
import Derived.Test.YtaemkneppphkmaaFw
import Derived.Test.YtaemkneppphkmaaMp
set_option linter.unusedVariables false
set_option linter.unusedSimpArgs false
namespace Go.Proofs.Ytaemkneppphkmaa.U
open Go.RowKit Go.Lib Go.Proofs.YtaemkneppphkmaaW.PrintWords

def psum (l : List Int) (k : Nat) : Int := (l.take k).sum
theorem psum_zero (l : List Int) : psum l 0 = 0 := by simp [psum]
theorem psum_succ {l : List Int} {k : Nat} (hk : k < l.length) : psum l (k + 1) = psum l k + rd l (k : Int) := sum_snoc l k hk
theorem psum_add {l : List Int} (hw : wOk l = true) : ∀ (d k : Nat), k + d ≤ l.length → psum l k ≤ psum l (k + d)
  | 0, k, _ => Int.le_refl _
  | d + 1, k, h => by
    have h1 := psum_add hw d k (by omega)
    have h2 := psum_succ (l := l) (k := k + d) (by omega)
    have h3 := wOk_at hw (k + d) (by omega)
    rw [show k + (d + 1) = k + d + 1 by omega]
    omega
theorem psum_mono {l : List Int} (hw : wOk l = true) {a b : Nat} (h : a ≤ b) (hb : b ≤ l.length) : psum l a ≤ psum l b := by
  have := psum_add hw (b - a) a (by omega)
  rwa [show a + (b - a) = b by omega] at this
theorem part_psum (l cuts : List Int) (j : Nat) (h1 : rd cuts (j : Int) ≤ rd cuts ((j + 1 : Nat) : Int)) : (partOf l cuts j).sum = psum l (rd cuts ((j + 1 : Nat) : Int)).toNat - psum l (rd cuts (j : Int)).toNat := by
  unfold partOf psum
  generalize hb : (rd cuts ((j + 1 : Nat) : Int)).toNat = b
  generalize ha : (rd cuts (j : Int)).toNat = a
  have hab : a ≤ b := by omega
  have h := congrArg List.sum (List.take_append_drop a (l.take b))
  rw [List.sum_append, List.take_take, Nat.min_eq_left hab] at h
  omega
theorem rdl_lt (l m : List Int) (i : Nat) (h : i < l.length) : rd (l ++ m) (i : Int) = rd l (i : Int) := by
  rw [rd_nat, rd_nat, List.getD_eq_getElem?_getD, List.getD_eq_getElem?_getD, List.getElem?_append_left h]
theorem rdl_eq (l : List Int) (x : Int) : rd (l ++ [x]) (l.length : Int) = x := by
  rw [rd_nat, List.getD_eq_getElem?_getD]
  simp
/-- cuts from 0 to e, of which no part weighs more than m -/
structure Good (l : List Int) (m : Int) (C : List Int) (e : Nat) : Prop where
  pos : 1 ≤ C.length
  first : rd C ((0 : Nat) : Int) = 0
  last : rd C ((C.length - 1 : Nat) : Int) = e
  step : ∀ i, i + 1 < C.length → 0 ≤ rd C (i : Int) ∧ rd C (i : Int) ≤ rd C ((i + 1 : Nat) : Int) ∧ psum l (rd C ((i + 1 : Nat) : Int)).toNat - psum l (rd C (i : Int)).toNat ≤ m
theorem Good.app {l : List Int} {m : Int} {C : List Int} {e e' : Nat} (h : Good l m C e) (hle : e ≤ e') (hm : psum l e' - psum l e ≤ m) : Good l m (C ++ [(e' : Int)]) e' where
  pos := by simp
  first := by rw [rdl_lt _ _ 0 h.pos, h.first]
  last := by rw [List.length_append, List.length_singleton, Nat.add_sub_cancel, rdl_eq]
  step := fun i hi => by
    rw [List.length_append, List.length_singleton] at hi
    by_cases h1 : i + 1 < C.length
    · rw [rdl_lt _ _ i (by omega), rdl_lt _ _ (i + 1) h1]
      exact h.step i h1
    · have e1 : i + 1 = C.length := by omega
      have hl := h.last
      rw [← e1, Nat.add_sub_cancel] at hl
      rw [rdl_lt _ _ i (by omega), e1, rdl_eq, hl]
      refine ⟨by omega, by omega, ?_⟩
      rw [Int.toNat_natCast, Int.toNat_natCast]
      exact hm
theorem Good.up {l : List Int} {m m' : Int} {C : List Int} {e : Nat} (h : Good l m C e) (hm : m ≤ m') : Good l m' C e := ⟨h.pos, h.first, h.last, fun i hi => by have := h.step i hi; omega⟩
theorem Good.le {l : List Int} {m : Int} {C : List Int} {e : Nat} (h : Good l m C e) : ∀ (d i : Nat), i + d = C.length - 1 → 0 ≤ rd C (i : Int) ∧ rd C (i : Int) ≤ e
  | 0, i, hi => by
    have := h.last
    rw [← hi, Nat.add_zero] at this
    omega
  | d + 1, i, hi => by
    have h1 := h.step i (by omega)
    have h2 := h.le d (i + 1) (by omega)
    omega
theorem Good.at {l : List Int} {m : Int} {C : List Int} {e : Nat} (h : Good l m C e) (i : Nat) (hi : i < C.length) : 0 ≤ rd C (i : Int) ∧ rd C (i : Int) ≤ e := h.le (C.length - 1 - i) i (by omega)
theorem cut_good {l : List Int} {m : Int} (hw : wOk l = true) (h0 : 0 ≤ m) (hf : fits l m = true) : ∀ k, k ≤ l.length → ∃ e, e ≤ k ∧ Good l m (cutTo l m k).1 e ∧ psum l k - psum l e = (cutTo l m k).2 ∧ (cutTo l m k).2 ≤ m
  | 0, _ => ⟨0, Nat.le_refl _, ⟨by simp [cutTo], by simp [cutTo, rd], by simp [cutTo, rd], fun i hi => by simp [cutTo] at hi⟩, by simp [cutTo], by simp only [cutTo]; omega⟩
  | k + 1, hk => by
    obtain ⟨e, he, hg, hs, hm⟩ := cut_good hw h0 hf k (by omega)
    have hx := fits_at hf k (by omega)
    have hp := psum_succ (l := l) (k := k) (by omega)
    by_cases hc : m < (cutTo l m k).2 + rd l (k : Int)
    · rw [cutTo_over hc]
      exact ⟨k, by omega, hg.app he (by omega), by show psum l (k + 1) - psum l k = rd l (k : Int); omega, hx⟩
    · rw [cutTo_fits hc]
      exact ⟨e, by omega, hg, by show psum l (k + 1) - psum l e = (cutTo l m k).2 + rd l (k : Int); omega, by show (cutTo l m k).2 + rd l (k : Int) ≤ m; omega⟩
theorem cutsL_good {l : List Int} {m : Int} (hw : wOk l = true) (h0 : 0 ≤ m) (hf : fits l m = true) : Good l m (cutsL l m) l.length := by
  obtain ⟨e, he, hg, hs, hm⟩ := cut_good hw h0 hf l.length (Nat.le_refl _)
  exact hg.app he (by omega)
theorem Good.pad {l : List Int} {m : Int} {C : List Int} {e : Nat} (h : Good l m C e) (h0 : 0 ≤ m) : ∀ t, Good l m (C ++ List.replicate t (e : Int)) e
  | 0 => by simpa using h
  | t + 1 => by
    rw [List.replicate_succ', ← List.append_assoc]
    exact (h.pad h0 t).app (Nat.le_refl _) (by omega)
/-- greedy is ahead of the cuts C in their part j, at place k -/
def Ahead (l : List Int) (M : Int) (C : List Int) (j k : Nat) : Prop := (cutTo l M k).1.length ≤ j ∨ ((cutTo l M k).1.length = j + 1 ∧ (cutTo l M k).2 ≤ psum l k - psum l (rd C (j : Int)).toNat)
theorem ahead_in {l : List Int} {M : Int} {C : List Int} (hw : wOk l = true) (hg : Good l M C l.length) (j : Nat) (hj : j + 1 < C.length) (h : Ahead l M C j (rd C (j : Int)).toNat) :
    ∀ d, (rd C (j : Int)).toNat + d ≤ (rd C ((j + 1 : Nat) : Int)).toNat → Ahead l M C j ((rd C (j : Int)).toNat + d)
  | 0, _ => h
  | d + 1, hd => by
    have ih := ahead_in hw hg j hj h d (by omega)
    have h1 := hg.step j hj
    have h2 := hg.at (j + 1) hj
    unfold Ahead at ih ⊢
    generalize ha : (rd C (j : Int)).toNat = a at *
    rw [show a + (d + 1) = a + d + 1 by omega]
    have hk : a + d < l.length := by omega
    have hx := wOk_at hw (a + d) hk
    have hp := psum_succ hk
    have hp1 := psum_mono hw (a := a) (b := a + d) (by omega) (by omega)
    have hp2 := psum_mono hw (a := a + d + 1) (b := (rd C ((j + 1 : Nat) : Int)).toNat) (by omega) (by omega)
    by_cases hc : M < (cutTo l M (a + d)).2 + rd l ((a + d : Nat) : Int)
    · rw [cutTo_over hc]
      rcases ih with ih | ⟨ih1, ih2⟩
      · by_cases e : (cutTo l M (a + d)).1.length = j
        · right
          refine ⟨by simp [e], ?_⟩
          show rd l ((a + d : Nat) : Int) ≤ _
          omega
        · left
          simp
          omega
      · omega
    · rw [cutTo_fits hc]
      rcases ih with ih | ⟨ih1, ih2⟩
      · exact .inl ih
      · right
        refine ⟨ih1, ?_⟩
        show (cutTo l M (a + d)).2 + rd l ((a + d : Nat) : Int) ≤ _
        omega
theorem ahead_cut {l : List Int} {M : Int} {C : List Int} (hw : wOk l = true) (hg : Good l M C l.length) : ∀ j, j < C.length → Ahead l M C j (rd C (j : Int)).toNat ∧ (1 ≤ j → (cutTo l M (rd C (j : Int)).toNat).1.length ≤ j)
  | 0, _ => by
    refine ⟨?_, by omega⟩
    unfold Ahead
    rw [hg.first]
    right
    simp [cutTo]
  | j + 1, hj => by
    have h1 := hg.step j hj
    have ih := ahead_in hw hg j hj (ahead_cut hw hg j (by omega)).1 ((rd C ((j + 1 : Nat) : Int)).toNat - (rd C (j : Int)).toNat) (by omega)
    rw [show (rd C (j : Int)).toNat + ((rd C ((j + 1 : Nat) : Int)).toNat - (rd C (j : Int)).toNat) = (rd C ((j + 1 : Nat) : Int)).toNat by omega] at ih
    have h2 : (cutTo l M (rd C ((j + 1 : Nat) : Int)).toNat).1.length ≤ j + 1 := by
      unfold Ahead at ih
      omega
    exact ⟨.inl h2, fun _ => h2⟩
theorem good_fits {l : List Int} {M : Int} {C : List Int} (hw : wOk l = true) (hg : Good l M C l.length) : ∀ j, j < C.length → ∀ k, k < (rd C (j : Int)).toNat → rd l (k : Int) ≤ M
  | 0, _, k, hk => by rw [hg.first] at hk; simp at hk
  | j + 1, hj, k, hk => by
    have h1 := hg.step j hj
    have h2 := hg.at (j + 1) hj
    by_cases hc : k < (rd C (j : Int)).toNat
    · exact good_fits hw hg j (by omega) k hc
    · have hp := psum_succ (l := l) (k := k) (by omega)
      have hp1 := psum_mono hw (a := (rd C (j : Int)).toNat) (b := k) (by omega) (by omega)
      have hp2 := psum_mono hw (a := k + 1) (b := (rd C ((j + 1 : Nat) : Int)).toNat) (by omega) (by omega)
      omega
/-- m is enough for k parts -/
def Enough (l : List Int) (m : Int) (k : Nat) : Prop := fits l m = true ∧ (cutsL l m).length ≤ k + 1
theorem good_enough {l : List Int} {M : Int} {C : List Int} (hw : wOk l = true) (hn : l.length ≠ 0) (hg : Good l M C l.length) (k : Nat) (hk : C.length ≤ k + 1) : Enough l M k := by
  have hlast := hg.last
  have hp := hg.pos
  have h2 : 2 ≤ C.length := by
    rcases Nat.lt_or_ge C.length 2 with h | h
    · have e : C.length - 1 = 0 := by omega
      rw [e, hg.first] at hlast
      omega
    · exact h
  refine ⟨fits_yes l M l.length rfl (fun j hj => good_fits hw hg (C.length - 1) (by omega) j (by rw [hlast]; simpa using hj)), ?_⟩
  have := (ahead_cut hw hg (C.length - 1) (by omega)).2 (by omega)
  rw [hlast, Int.toNat_natCast] at this
  unfold cutsL
  simp
  omega
theorem fits_nn {l : List Int} {m : Int} (hw : wOk l = true) (hn : l.length ≠ 0) (h : fits l m = true) : 0 ≤ m := by
  have h1 := fits_at h 0 (by omega)
  have h2 := wOk_at hw 0 (by omega)
  omega
theorem Enough.up {l : List Int} {x y : Int} {k : Nat} (hw : wOk l = true) (hn : l.length ≠ 0) (h : Enough l x k) (hxy : x ≤ y) : Enough l y k :=
  good_enough hw hn ((cutsL_good hw (fits_nn hw hn h.1) h.1).up hxy) k h.2
/-- the least that is enough for k parts -/
structure IsBest (l : List Int) (k : Nat) (m : Int) : Prop where
  enough : Enough l m k
  least : ∀ x, x < m → ¬ Enough l x k
theorem IsBest.same {l : List Int} {k : Nat} {m m' : Int} (h : IsBest l k m) (h' : IsBest l k m') : m = m' := by
  rcases Int.lt_trichotomy m m' with h1 | h1 | h1
  · exact absurd h.enough (h'.least m h1)
  · exact h1
  · exact absurd h'.enough (h.least m' h1)
noncomputable def bestOf (l : List Int) (k : Nat) : Int := @dite _ (∃ m, IsBest l k m) (Classical.propDecidable _) (fun h => Classical.choose h) (fun _ => 0)
theorem IsBest.eq {l : List Int} {k : Nat} {m : Int} (h : IsBest l k m) : bestOf l k = m := by
  have hx : ∃ m, IsBest l k m := ⟨m, h⟩
  unfold bestOf
  rw [dif_pos hx]
  exact (Classical.choose_spec hx).same h
theorem all_enough {l : List Int} (hw : wOk l = true) (hn : l.length ≠ 0) (k : Nat) (hk : 1 ≤ k) : Enough l (psum l l.length) k := by
  have h0 : Good l (psum l l.length) [0] 0 := ⟨by simp, by simp [rd], by simp [rd], fun i hi => by simp at hi⟩
  have h1 := h0.app (e' := l.length) (Nat.zero_le _) (by rw [psum_zero]; omega)
  exact good_enough hw hn h1 k (by simp; omega)
theorem top_least {l : List Int} (hw : wOk l = true) (hn : l.length ≠ 0) (k : Nat) (x : Int) (hx : x < topTo l l.length) : ¬ Enough l x k := fun h => by
  have h1 := top_fits l x l.length rfl hw hn
  rw [h.1, decide_eq_true hx] at h1
  cases h1
theorem top_sum {l : List Int} (hw : wOk l = true) : ∀ n, n ≤ l.length → topTo l n ≤ psum l n
  | 0, _ => by simp [topTo, psum]
  | n + 1, h => by
    have h1 := top_sum hw n (by omega)
    have h2 := psum_succ (l := l) (k := n) (by omega)
    have h3 := wOk_at hw n (by omega)
    have h4 := topTo_nn l n
    rw [topTo, bigMax_max]
    omega
/-- what the number of parts tells -/
theorem fewest_enough {l : List Int} (hw : wOk l = true) (hn : l.length ≠ 0) (m : Int) (k : Nat) : Enough l m k ↔ 0 ≤ fewest l m ∧ fewest l m ≤ k := by
  have hc : 1 ≤ (cutsL l m).length := by simp [cutsL]
  unfold Enough fewest
  rw [if_pos hw, if_neg hn]
  by_cases hf : fits l m = true
  · rw [if_pos hf]
    constructor
    · rintro ⟨_, h⟩
      omega
    · intro h
      exact ⟨hf, by omega⟩
  · rw [if_neg hf]
    constructor
    · rintro ⟨h, _⟩
      exact absurd h hf
    · omega
/-- the cuts of the best division into k parts -/
noncomputable def cutsOf (l : List Int) (k : Nat) : List Int := cutsL l (bestOf l k) ++ List.replicate (k + 1 - (cutsL l (bestOf l k)).length) (l.length : Int)
noncomputable def partL (l : List Int) (k : Int) : List Int × Int := if inR k 1 16 = true ∧ l.length ≠ 0 ∧ wOk l = true then (cutsOf l k.toNat, bestOf l k.toNat) else ([], -1)
theorem good_cuts {l : List Int} {m : Int} {C : List Int} (hg : Good l m C l.length) (h2 : 2 ≤ C.length) (h17 : C.length ≤ 17) : cutsOk l.length C = true := by
  simp only [cutsOk, Bool.and_eq_true, inR_iff, beq_iff_eq, ascB_iff]
  refine ⟨⟨⟨by omega, hg.first⟩, hg.last⟩, fun j h1 hj => ?_⟩
  have := (hg.step (j - 1) (by omega)).2.1
  rwa [show j - 1 + 1 = j by omega] at this
theorem mostTo_le {l : List Int} {m : Int} {C : List Int} {e : Nat} (hg : Good l m C e) (h0 : 0 ≤ m) : ∀ j, j ≤ C.length - 1 → mostTo l C j ≤ m
  | 0, _ => by simp only [mostTo]; exact h0
  | j + 1, h => by
    have h1 := mostTo_le hg h0 j (by omega)
    have h2 := hg.step j (by omega)
    rw [mostTo, bigMax_max, part_psum l C j h2.2.1]
    omega
theorem mostTo_ge (l C : List Int) : ∀ (n j : Nat), j < n → (partOf l C j).sum ≤ mostTo l C n
  | n + 1, j, h => by
    rw [mostTo, bigMax_max]
    by_cases e : j = n
    · rw [e]; omega
    · have := mostTo_ge l C n j (by omega)
      omega
theorem cuts_good {l C : List Int} (hc : cutsOk l.length C = true) : Good l (mostTo l C (C.length - 1)) C l.length := by
  obtain ⟨h1, h2, h3, h4⟩ := cutsOk_facts hc
  refine ⟨by omega, h2, h3, fun i hi => ?_⟩
  have h5 := (cut_at hc i hi).out
  rw [← part_psum l C i h5.2.1]
  exact ⟨h5.1, h5.2.1, mostTo_ge l C _ i (by omega)⟩
/-- no division into at most k parts has a smaller greatest part -/
theorem best_least {l C : List Int} {k : Nat} {m : Int} (hw : wOk l = true) (hn : l.length ≠ 0) (hb : IsBest l k m) (hc : cutsOk l.length C = true) (hk : C.length ≤ k + 1) : m ≤ maxPart l C := by
  have e : maxPart l C = mostTo l C (C.length - 1) := by simp [maxPart, hc, hw]
  rw [e]
  rcases Int.lt_or_le (mostTo l C (C.length - 1)) m with h | h
  · exact absurd (good_enough hw hn (cuts_good hc) k hk) (hb.least _ h)
  · exact h
theorem best_cuts {l : List Int} {k : Nat} {m : Int} (hw : wOk l = true) (hn : l.length ≠ 0) (hk : 1 ≤ k) (hk2 : k ≤ 16) (hb : IsBest l k m) :
    (cutsOf l k).length = k + 1 ∧ cutsOk l.length (cutsOf l k) = true ∧ maxPart l (cutsOf l k) = m ∧ cutsOf l k = cutsL l m ++ List.replicate (k + 1 - (cutsL l m).length) (l.length : Int) ∧ (cutsL l m).length ≤ k + 1 ∧ 1 ≤ (cutsL l m).length := by
  have h0 := fits_nn hw hn hb.enough.1
  have hg := (cutsL_good hw h0 hb.enough.1).pad h0 (k + 1 - (cutsL l m).length)
  have he : cutsOf l k = cutsL l m ++ List.replicate (k + 1 - (cutsL l m).length) (l.length : Int) := by rw [cutsOf, hb.eq]
  have hle := hb.enough.2
  have hlen : (cutsOf l k).length = k + 1 := by rw [he, List.length_append, List.length_replicate]; omega
  rw [← he] at hg
  have hc := good_cuts hg (by omega) (by omega)
  have e : maxPart l (cutsOf l k) = mostTo l (cutsOf l k) ((cutsOf l k).length - 1) := by simp [maxPart, hc, hw]
  refine ⟨hlen, hc, ?_, he, hle, by simp [cutsL]⟩
  have h1 := best_least hw hn hb hc (by omega)
  have h2 := mostTo_le hg h0 ((cutsOf l k).length - 1) (Nat.le_refl _)
  rw [e] at h1 ⊢
  omega
theorem best_of {l : List Int} {k : Nat} {m : Int} (hw : wOk l = true) (hn : l.length ≠ 0) (h : Enough l m k) (hl : ¬ Enough l (m - 1) k) : IsBest l k m :=
  ⟨h, fun x hx hx2 => hl (hx2.up hw hn (by omega))⟩
end Go.Proofs.Ytaemkneppphkmaa.U
