
/- adapt: the plain law. -/
import Derived.Test.YtaidbdogolhnjaaG25
set_option linter.unusedVariables false
set_option linter.unusedSimpArgs false
namespace Go.Proofs.Ytaidbdogolhnjaa.U
open Go.RowKit Go.Lib Go.Proofs.YtaidbdogolhnjaaW.PrintWords

open Go.Proofs.YtaidbdogolhnjaaW.PrintLast Go.Proofs.YtaidbdogolhnjaaW.PrintMore
theorem share_split {t m r q L G : Int} (hm : 0 < m) (hr : 0 ≤ r) (hr' : 0 ≤ m - r) (h1 : q * m ≤ t * r) (h2 : t * r < (q + 1) * m) (hL : L * m ≤ t) (hG : t ≤ G * m) : (L * r ≤ q ∧ q ≤ G * r) ∧ L * (m - r) ≤ t - q ∧ t - q ≤ G * (m - r) := by
  obtain ⟨p, hp⟩ : ∃ p, m - r = p := ⟨_, rfl⟩
  rw [hp] at hr' ⊢
  have a1 : (L * m) * r ≤ t * r := Int.mul_le_mul_of_nonneg_right hL hr
  have a2 : t * r ≤ (G * m) * r := Int.mul_le_mul_of_nonneg_right hG hr
  have a3 : (L * m) * p ≤ t * p := Int.mul_le_mul_of_nonneg_right hL hr'
  have a4 : t * p ≤ (G * m) * p := Int.mul_le_mul_of_nonneg_right hG hr'
  have e1 : (L * m) * r = (L * r) * m := Int.mul_right_comm L m r
  have e2 : (G * m) * r = (G * r) * m := Int.mul_right_comm G m r
  have e3 : (L * m) * p = (L * p) * m := Int.mul_right_comm L m p
  have e4 : (G * m) * p = (G * p) * m := Int.mul_right_comm G m p
  have e5 : t * m = t * r + t * p := by rw [← Int.mul_add, show r + p = m by omega]
  have e6 : (t - q) * m = t * m - q * m := Int.sub_mul t q m
  have e7 : (q + 1) * m = q * m + m := by rw [Int.add_mul, Int.one_mul]
  have e8 : (G * p + 1) * m = (G * p) * m + m := by rw [Int.add_mul, Int.one_mul]
  rw [e1] at a1
  rw [e2] at a2
  rw [e3] at a3
  rw [e4] at a4
  have b1 : (L * r) * m < (q + 1) * m := Int.lt_of_le_of_lt a1 h2
  have b2 : q * m ≤ (G * r) * m := Int.le_trans h1 a2
  have b3 : (L * p) * m ≤ (t - q) * m := by rw [e6, e5]; generalize (L * p) * m = x1 at *; generalize t * p = x2 at *; generalize t * r = x3 at *; generalize q * m = x4 at *; omega
  have b4 : (t - q) * m < (G * p + 1) * m := by rw [e6, e5, e8]; rw [e7] at h2; generalize (G * p) * m = x1 at *; generalize t * p = x2 at *; generalize t * r = x3 at *; generalize q * m = x4 at *; omega
  have c1 := Int.lt_of_mul_lt_mul_right b1 (Int.le_of_lt hm)
  have c2 := Int.le_of_mul_le_mul_right b2 hm
  have c3 := Int.le_of_mul_le_mul_right b3 hm
  have c4 := Int.lt_of_mul_lt_mul_right b4 (Int.le_of_lt hm)
  exact ⟨⟨Int.le_of_lt_add_one c1, c2⟩, c3, Int.le_of_lt_add_one c4⟩
theorem outA_share {t m r L G : Int} (hm : 0 ≤ m) (ht : 0 ≤ t ∧ t ≤ 1000 * m) (hr : 0 ≤ r ∧ r ≤ m) (hL : L * m ≤ t) (hG : t ≤ G * m) : (L * r ≤ outA t m r ∧ outA t m r ≤ G * r) ∧ L * (m - r) ≤ t - outA t m r ∧ t - outA t m r ≤ G * (m - r) := by
  unfold outA
  split
  · rename_i h0
    subst h0
    obtain rfl : r = 0 := by omega
    obtain rfl : t = 0 := by omega
    simp
  · rename_i h0
    have hn : 0 ≤ t * r := Int.mul_nonneg ht.1 hr.1
    rw [Int.tdiv_eq_ediv_of_nonneg hn]
    have hm' : 0 < m := by omega
    refine share_split hm' hr.1 (by omega) (Int.ediv_mul_le _ (by omega)) ?_ hL hG
    rw [Int.add_mul, Int.one_mul]
    exact Int.lt_ediv_add_one_mul_self _ hm' |> fun h => by rw [Int.add_mul, Int.one_mul] at h; exact h
theorem rd_merM {l : List Int} {i : Nat} (a : Int) (hi : i < l.length) (j : Nat) : rd (merM l i a) (j : Int) = if j < i then rd l (j : Int) else if j = i then a else rd l ((j + 1 : Nat) : Int) := by
  rw [rd_nat, rd_nat, rd_nat, merM, getD_mid _ _ _ _ _ (by omega)]
  by_cases h1 : j < i
  · rw [if_pos h1, if_pos h1]
  · rw [if_neg h1, if_neg h1]
    by_cases h2 : j = i
    · subst h2
      rw [if_pos (by simp), if_pos rfl, Nat.sub_self]
      rfl
    · rw [if_neg (by simp; omega), if_neg h2]
      congr 1
      simp only [List.length_cons, List.length_nil]
      omega
theorem gc_mer {l : List Ce} {i : Nat} (hi : i < l.length) (j : Nat) : gc (merC l i) j = if j < i then gc l j else if j = i then parC (gc l i) else gc l (j + 1) := by
  show (l.take i ++ [parC (gc l i)] ++ l.drop (i + 2)).getD j cz = _
  rw [getD_mid _ _ _ _ _ (by omega)]
  by_cases h1 : j < i
  · rw [if_pos h1, if_pos h1]; rfl
  · rw [if_neg h1, if_neg h1]
    by_cases h2 : j = i
    · subst h2
      rw [if_pos (by simp), if_pos rfl, Nat.sub_self]
      rfl
    · rw [if_neg (by simp; omega), if_neg h2]
      show l.getD _ cz = l.getD _ cz
      congr 1
      simp only [List.length_cons, List.length_nil]
      omega
theorem twoY {α : Type} {l : List α} {i : Nat} (h : i + 1 < l.length) : l.take i ++ [l[i], l[i + 1]] ++ l.drop (i + 2) = l := by
  conv => rhs; rw [← List.take_append_drop i l, List.drop_eq_getElem_cons (by omega), List.drop_eq_getElem_cons h]
  simp
theorem sum_merM {l : List Int} {i : Nat} (h : i + 1 < l.length) : (merM l i (rd l (i : Int) + rd l ((i + 1 : Nat) : Int))).sum = l.sum := by
  conv => rhs; rw [← twoY h]
  rw [merM, rd_nat, rd_nat, List.getD_eq_getElem?_getD, List.getD_eq_getElem?_getD, List.getElem?_eq_getElem h, List.getElem?_eq_getElem (by omega : i < l.length), Option.getD_some, Option.getD_some]
  simp only [List.sum_append, List.sum_cons, List.sum_nil]
  omega
theorem rd_le_sumY : ∀ (l : List Int) (_ : ∀ j : Nat, j < l.length → 0 ≤ rd l (j : Int)), 0 ≤ l.sum ∧ ∀ i : Nat, i < l.length → rd l (i : Int) ≤ l.sum
  | [], _ => ⟨by simp, fun i h => by simp at h⟩
  | x :: l, h => by
    have h0 : 0 ≤ x := by have := h 0 (by simp); rw [rd_nat] at this; simpa using this
    have ih := rd_le_sumY l (fun j hj => by have := h (j + 1) (by simpa using hj); rw [rd_nat] at this ⊢; simpa using this)
    rw [List.sum_cons]
    refine ⟨by omega, fun i hi => ?_⟩
    cases i with
    | zero => rw [rd_nat]; simp; omega
    | succ i =>
      have := ih.2 i (by simpa using hi)
      rw [rd_nat] at this ⊢
      simp at this ⊢
      omega
theorem sib_facts {a b : Ce} (h : sibB a b = true) : ceOk (parC a) = true ∧ (parC a).l < 4 ∧ kid (parC a) 0 = a ∧ kid (parC a) 1 = b ∧ (parC a).l = a.l - 1 ∧ b.l = a.l := by
  simp only [sibB, ceB, Bool.and_eq_true, beq_iff_eq] at h
  obtain ⟨ha, hb, he, ht, hi⟩ := h
  have ea : parC a = ⟨a.r, a.l - 1, Int.tdiv a.i 2⟩ := by rw [parC, if_pos ha]
  have eb : parC b = ⟨b.r, b.l - 1, Int.tdiv b.i 2⟩ := by rw [parC, if_pos hb]
  rw [ea, eb] at he
  simp only [hasPar, Bool.and_eq_true, Bool.not_eq_true', beq_eq_false_iff_ne] at ha hb
  have fa := ceOk_facts ha.1
  have fb := ceOk_facts hb.1
  simp only at he
  rw [Int.tmod_eq_emod_of_nonneg (by omega)] at ht
  have ed : Int.tdiv a.i 2 = a.i / 2 := Int.tdiv_eq_ediv_of_nonneg (by omega)
  have hp : pow2 a.l = 2 * pow2 (a.l - 1) := by
    have h4 : a.l = 1 ∨ a.l = 2 ∨ a.l = 3 ∨ a.l = 4 := by omega
    rcases h4 with e | e | e | e <;> rw [e] <;> rfl
  rw [ea]
  obtain ⟨ar, al, ai⟩ := a
  obtain ⟨br, bl, bi⟩ := b
  simp only at *
  refine ⟨?_, by omega, ?_, ?_, trivial, by omega⟩
  · simp only [ceOk, Bool.and_eq_true, inR_iff, ed]
    omega
  · simp only [kid, ed]
    congr 1 <;> omega
  · simp only [kid, ed]
    congr 1 <;> omega
theorem meshEnd_split {l : List Ce} {i : Nat} (hi : i < l.length) (hok : ceOk (gc l i) = true) (hl : (gc l i).l < 4) : meshEnd (splitC l i) 0 = meshEnd l 0 := by
  have h1 : l = l.take i ++ [gc l i] ++ l.drop (i + 1) := by
    rw [gc_at hi, List.append_assoc, List.singleton_append, ← List.drop_eq_getElem_cons hi, List.take_append_drop]
  have h2 : ∀ a, meshEnd [kid (gc l i) 0, kid (gc l i) 1] a = meshEnd [gc l i] a := fun a => by
    obtain ⟨k1, k2, k3⟩ := kid_at hok hl
    rw [meshEnd, meshEnd, meshEnd, meshEnd, meshEnd]
    simp only [hok, kid_ok hok hl 0 (by omega), kid_ok hok hl 1 (by omega), true_and, k1, k2, k3, if_true]
  conv => rhs; rw [h1]
  rw [splitC, meshEnd_app, meshEnd_app, meshEnd_app, meshEnd_app]
  congr 1
  congr 1
  exact funext h2
theorem mayB_sib {l : List Ce} {i : Nat} (h : mayB l i = true) : sibB (gc l i) (gc l (i + 1)) = true := by
  rw [mayB, Bool.and_eq_true] at h
  exact h.1
theorem split_mer {l : List Ce} {i : Nat} (hi : i + 1 < l.length) (h : mayB l i = true) : splitC (merC l i) i = l := by
  obtain ⟨_, _, k0, k1, _⟩ := sib_facts (mayB_sib h)
  have ht : (l.take i).length = i := by rw [List.length_take]; omega
  have e1 : (merC l i).take i = l.take i := by rw [merC, List.append_assoc, List.take_left' ht]
  have e2 : (merC l i).drop (i + 1) = l.drop (i + 2) := by rw [merC, List.drop_left' (by simp only [List.length_append, List.length_cons, List.length_nil]; omega)]
  rw [splitC, e1, e2, gc_mer (by omega), if_neg (by omega), if_pos rfl, k0, k1, gc_at hi, gc_at (by omega : i < l.length)]
  exact twoY hi
theorem mer_mesh {ro : Int} {l : List Ce} {i : Nat} (hm : meshOk ro l = true) (hi : i + 1 < l.length) (h : mayB l i = true) : meshOk ro (merC l i) = true := by
  obtain ⟨h1, h2, _⟩ := sib_facts (mayB_sib h)
  have e := meshEnd_split (l := merC l i) (i := i) (by rw [merC_length hi]; omega) (by rw [gc_mer (by omega), if_neg (by omega), if_pos rfl]; exact h1) (by rw [gc_mer (by omega), if_neg (by omega), if_pos rfl]; exact h2)
  rw [split_mer hi h] at e
  rw [meshOk, ← e]
  exact hm
theorem mer_has {s : Sta} {i : Nat} (h : hasC s.ro s.lv.length s.ms s.ts s.bd = true) (hi : i + 1 < s.lv.length) : hasC s.ro (merS s i).lv.length (merS s i).ms (merS s i).ts s.bd = true := by
  obtain ⟨h1, h2, h3, h4, h5, h6⟩ := hasC_iff.1 h
  have hl : (merS s i).lv.length = s.lv.length - 1 := merC_length hi
  have hs : (merS s i).ms.sum = s.ms.sum := sum_merM (by omega)
  have hL : (merS s i).ms.length = s.lv.length - 1 := by
    show (merM s.ms i _).length = _
    rw [merM_length (by omega), h1]
  have ha := h5 i (by omega)
  have hb := h5 (i + 1) hi
  have hr : ∀ j : Nat, j < s.lv.length - 1 → 0 ≤ rd (merS s i).ms (j : Int) := fun j hj => by
    show 0 ≤ rd (merM s.ms i _) (j : Int)
    rw [rd_merM _ (by omega)]
    split
    · exact (h5 j (by omega)).1.1
    · split
      · omega
      · exact (h5 (j + 1) (by omega)).1.1
  have hle := (rd_le_sumY (merS s i).ms (fun j hj => hr j (by omega))).2
  refine hasC_iff.2 ⟨by rw [hL, hl], ?_, h3, h4, fun j hj => ⟨⟨hr j (by omega), ?_⟩, ?_⟩, by omega⟩
  · show (merM s.ts i _).length = _
    rw [merM_length (by omega), h2, hl]
  · have := hle j (by omega)
    omega
  · show 0 ≤ rd (merM s.ts i _) (j : Int) ∧ rd (merM s.ts i _) (j : Int) ≤ 1000 * rd (merM s.ms i _) (j : Int)
    rw [rd_merM _ (by omega), rd_merM _ (by omega)]
    by_cases c1 : j < i
    · rw [if_pos c1, if_pos c1]; exact (h5 j (by omega)).2
    · rw [if_neg c1, if_neg c1]
      by_cases c2 : j = i
      · rw [if_pos c2, if_pos c2]; omega
      · rw [if_neg c2, if_neg c2]; exact (h5 (j + 1) (by omega)).2
theorem Vs.mer {s : Sta} {i : Nat} (h : Vs s) (hi : i + 1 < s.lv.length) (hm : mayB s.lv i = true) : Vs (merS s i) := ⟨mer_mesh h.m hi hm, mer_has h.c hi⟩
theorem mer_bal {ro : Int} {l : List Ce} {i : Nat} (h : isBal ro l = true) (hi : i + 1 < l.length) (hm : mayB l i = true) : isBal ro (merC l i) = true := by
  obtain ⟨h1, h2⟩ := isBal_iff.1 h
  refine isBal_iff.2 ⟨mer_mesh h1 hi hm, fun k hk => ?_⟩
  obtain ⟨_, _, _, _, e1, e2⟩ := sib_facts (mayB_sib hm)
  have hn := merC_length hi
  simp only [mayB, Bool.and_eq_true, Bool.not_eq_true', Bool.and_eq_false_iff, decide_eq_false_iff_not] at hm
  obtain ⟨_, hA, hB⟩ := hm
  rw [gc_mer (by omega), gc_mer (by omega)]
  by_cases c1 : k + 1 < i
  · rw [if_pos (by omega), if_pos c1]; exact h2 k (by omega)
  · by_cases c2 : k + 1 = i
    · have := h2 k (by omega)
      rw [if_pos (by omega), if_neg (by omega), if_pos c2, e1]
      rw [c2] at this
      rw [show k = i - 1 by omega] at this ⊢
      omega
    · by_cases c3 : k = i
      · subst c3
        have := h2 (k + 1) (by omega)
        rw [if_neg (by omega), if_pos rfl, if_neg (by omega), if_neg (by omega), e1]
        rw [show k + 1 + 1 = k + 2 by omega] at this ⊢
        omega
      · rw [if_neg (by omega), if_neg c3, if_neg (by omega), if_neg (by omega)]
        exact h2 (k + 1) (by omega)
/-- the shares lie within L and G -/
def Wd (s : Sta) (L G : Int) : Prop := ∀ i : Nat, i < s.lv.length → L * rd s.ms (i : Int) ≤ rd s.ts (i : Int) ∧ rd s.ts (i : Int) ≤ G * rd s.ms (i : Int)
/-- what an adapted state keeps -/
structure Tk (s0 s : Sta) : Prop where
  ro : s.ro = s0.ro
  bd : s.bd = s0.bd
  m : s.ms.sum = s0.ms.sum
  t : s.ts.sum = s0.ts.sum
  w : ∀ L G, Wd s0 L G → Wd s L G
theorem Tk.refl (s : Sta) : Tk s s := ⟨rfl, rfl, rfl, rfl, fun _ _ h => h⟩
theorem Tk.trans {a b c : Sta} (h : Tk a b) (k : Tk b c) : Tk a c := ⟨k.ro.trans h.ro, k.bd.trans h.bd, k.m.trans h.m, k.t.trans h.t, fun L G hw => k.w L G (h.w L G hw)⟩
theorem Tk.ref {s : Sta} {i : Nat} (h : Vs s) (hi : i < s.lv.length) : Tk s (refS s i) := by
  obtain ⟨h1, h2, h3, h4, h5, h6⟩ := hasC_iff.1 h.c
  obtain ⟨hm, ht⟩ := h5 i hi
  have hh := half_range hm.1
  refine ⟨rfl, rfl, sum_refM (by omega) (by omega), sum_refM (by omega) (by omega), fun L G hw j hj => ?_⟩
  have hj' : j < s.lv.length + 1 := by
    have : (refS s i).lv.length = s.lv.length + 1 := splitC_length hi
    omega
  have hs := outA_share (r := rd s.ms (i : Int) - Int.tdiv (rd s.ms (i : Int)) 2) hm.1 ht (by omega) (hw i hi).1 (hw i hi).2
  show L * rd (refM s.ms i _ _) (j : Int) ≤ rd (refM s.ts i _ _) (j : Int) ∧ rd (refM s.ts i _ _) (j : Int) ≤ G * rd (refM s.ms i _ _) (j : Int)
  rw [rd_refM _ _ (by omega), rd_refM _ _ (by omega)]
  by_cases c1 : j < i
  · rw [if_pos c1, if_pos c1]; exact hw j (by omega)
  · rw [if_neg c1, if_neg c1]
    by_cases c2 : j = i
    · rw [if_pos c2, if_pos c2]; exact hs.1
    · rw [if_neg c2, if_neg c2]
      by_cases c3 : j = i + 1
      · rw [if_pos c3, if_pos c3]
        have := hs.2
        rw [show rd s.ms (i : Int) - (rd s.ms (i : Int) - Int.tdiv (rd s.ms (i : Int)) 2) = Int.tdiv (rd s.ms (i : Int)) 2 by omega] at this
        exact this
      · rw [if_neg c3, if_neg c3]; exact hw (j - 1) (by omega)
theorem Tk.mer {s : Sta} {i : Nat} (h : Vs s) (hi : i + 1 < s.lv.length) : Tk s (merS s i) := by
  obtain ⟨h1, h2, h3, h4, h5, h6⟩ := hasC_iff.1 h.c
  refine ⟨rfl, rfl, sum_merM (by omega), sum_merM (by omega), fun L G hw j hj => ?_⟩
  have hj' : j < s.lv.length - 1 := by
    have : (merS s i).lv.length = s.lv.length - 1 := merC_length hi
    omega
  show L * rd (merM s.ms i _) (j : Int) ≤ rd (merM s.ts i _) (j : Int) ∧ rd (merM s.ts i _) (j : Int) ≤ G * rd (merM s.ms i _) (j : Int)
  rw [rd_merM _ (by omega), rd_merM _ (by omega)]
  by_cases c1 : j < i
  · rw [if_pos c1, if_pos c1]; exact hw j (by omega)
  · rw [if_neg c1, if_neg c1]
    by_cases c2 : j = i
    · rw [if_pos c2, if_pos c2, Int.mul_add, Int.mul_add]
      have a := hw i (by omega)
      have b := hw (i + 1) hi
      exact ⟨Int.add_le_add a.1 b.1, Int.add_le_add a.2 b.2⟩
    · rw [if_neg c2, if_neg c2]; exact hw (j + 1) (by omega)
theorem balS_ok : ∀ (d : Nat) (s : Sta), Vs s → 128 ≤ d + s.lv.length → Vs (balS d s) ∧ unbal (balS d s).lv < 0 ∧ Tk s (balS d s)
  | 0, s, h, hd => by
    refine ⟨h, ?_, Tk.refl s⟩
    rcases Int.lt_or_le (unbal s.lv) 0 with h0 | h0
    · exact h0
    · obtain ⟨i, e', hi, ht, hcw, hl4⟩ := unbal_facts h0 (meshOk_lvs h.m)
      have h2 := (meshOk_len (h.ref hcw hl4).m).1
      have h1 : (refS s (cwN s.lv i)).lv.length = s.lv.length + 1 := splitC_length hcw
      omega
  | d + 1, s, h, hd => by
    rw [balS]
    split
    · rename_i h0
      obtain ⟨i, e', hi, ht, hcw, hl4⟩ := unbal_facts h0 (meshOk_lvs h.m)
      rw [e', Int.toNat_natCast]
      have h1 : (refS s (cwN s.lv i)).lv.length = s.lv.length + 1 := splitC_length hcw
      obtain ⟨a, b, c⟩ := balS_ok d (refS s (cwN s.lv i)) (h.ref hcw hl4) (by omega)
      exact ⟨a, b, (Tk.ref h hcw).trans c⟩
    · rename_i h0
      exact ⟨h, by omega, Tk.refl s⟩
theorem balS_id {s : Sta} (h : unbal s.lv < 0) : ∀ d, balS d s = s
  | 0 => rfl
  | d + 1 => by rw [balS, if_neg (by omega)]
/-- adapt's first loop -/
def ad1 (W : List Int) : Nat → Sta → List Ce → Sta × List Ce
  | 0, s, C => (s, C)
  | k + 1, s, C => ad1 W k (if rd W (k : Int) = 1 then refS s k else s) (if rd W (k : Int) = -1 then gc s.lv k :: C else C)
/-- adapt's second loop -/
def adC (C : List Ce) (s : Sta) (i : Nat) : Bool := (decide (gc s.lv i ∈ C) && decide (gc s.lv (i + 1) ∈ C)) && mayB s.lv i
def ad2 (C : List Ce) : Nat → Nat → Sta → Sta
  | 0, _, s => s
  | d + 1, i, s => if i + 1 < s.lv.length then ad2 C d (i + 1) (if adC C s i = true then merS s i else s) else s
def adS (s : Sta) (hi lo : Int) : Sta :=
  ad2 (ad1 (wishTo s hi lo s.lv.length) s.lv.length s []).2 128 0 (balS (128 - (ad1 (wishTo s hi lo s.lv.length) s.lv.length s []).1.lv.length) (ad1 (wishTo s hi lo s.lv.length) s.lv.length s []).1)
theorem ad1_ok (W : List Int) (s0 : Sta) (hW : ∀ k : Nat, rd W (k : Int) = 1 → (gc s0.lv k).l < 4) : ∀ (k : Nat) (s : Sta) (C : List Ce), Vs s → k ≤ s.lv.length → (∀ j, j < k → gc s.lv j = gc s0.lv j) → Vs (ad1 W k s C).1 ∧ Tk s (ad1 W k s C).1
  | 0, s, C, h, _, _ => ⟨h, Tk.refl s⟩
  | k + 1, s, C, h, hk, hg => by
    rw [ad1]
    by_cases c : rd W (k : Int) = 1
    · rw [if_pos c]
      have hl : (gc s.lv k).l < 4 := by rw [hg k (by omega)]; exact hW k c
      have h1 : (refS s k).lv.length = s.lv.length + 1 := splitC_length hk
      obtain ⟨a, b⟩ := ad1_ok W s0 hW k (refS s k) (if rd W (k : Int) = -1 then gc s.lv k :: C else C) (h.ref hk hl) (by omega) (fun j hj => by
        show gc (splitC s.lv k) j = _
        rw [gc_split hk, if_pos hj]
        exact hg j (by omega))
      exact ⟨a, (Tk.ref h hk).trans b⟩
    · rw [if_neg c]
      exact ad1_ok W s0 hW k s _ h (by omega) (fun j hj => hg j (by omega))
theorem ad2_ok (C : List Ce) : ∀ (d i : Nat) (s : Sta), staOk s.ro s.lv s.ms s.ts s.bd = true → staOk (ad2 C d i s).ro (ad2 C d i s).lv (ad2 C d i s).ms (ad2 C d i s).ts (ad2 C d i s).bd = true ∧ Tk s (ad2 C d i s)
  | 0, i, s, h => ⟨h, Tk.refl s⟩
  | d + 1, i, s, h => by
    rw [ad2]
    split
    · rename_i hi
      by_cases c : adC C s i = true
      · rw [if_pos c]
        have hm : mayB s.lv i = true := by rw [adC, Bool.and_eq_true] at c; exact c.2
        obtain ⟨hb, hc⟩ := staOk_iff.1 h
        obtain ⟨a, b⟩ := ad2_ok C d (i + 1) (merS s i) (staOk_iff.2 ⟨mer_bal hb hi hm, mer_has hc hi⟩)
        exact ⟨a, (Tk.mer ⟨(isBal_iff.1 hb).1, hc⟩ hi).trans b⟩
      · rw [if_neg c]
        exact ad2_ok C d (i + 1) s h
    · exact ⟨h, Tk.refl s⟩
theorem wishTo_one {s : Sta} {hi lo : Int} (k : Nat) (h : rd (wishTo s hi lo s.lv.length) (k : Int) = 1) : (gc s.lv k).l < 4 := by
  rcases Nat.lt_or_ge k s.lv.length with h1 | h1
  · rw [wishTo_rd _ _ _ _ _ h1, wishV] at h
    split at h
    · rename_i h2; exact h2.2
    · split at h <;> omega
  · rw [rd_nat, List.getD_eq_getElem?_getD, List.getElem?_eq_none (by rw [wishTo_len]; exact h1)] at h
    simp at h
theorem adS_ok {s : Sta} {hi lo : Int} (h : staOk s.ro s.lv s.ms s.ts s.bd = true) : staOk (adS s hi lo).ro (adS s hi lo).lv (adS s hi lo).ms (adS s hi lo).ts (adS s hi lo).bd = true ∧ Tk s (adS s hi lo) := by
  obtain ⟨hb, hc⟩ := staOk_iff.1 h
  obtain ⟨a, b⟩ := ad1_ok (wishTo s hi lo s.lv.length) s (fun k => wishTo_one k) s.lv.length s [] ⟨(isBal_iff.1 hb).1, hc⟩ (Nat.le_refl _) (fun _ _ => rfl)
  unfold adS
  generalize ad1 (wishTo s hi lo s.lv.length) s.lv.length s [] = p at *
  obtain ⟨c, d, e⟩ := balS_ok (128 - p.1.lv.length) p.1 a (by omega)
  obtain ⟨f, g⟩ := ad2_ok p.2 128 0 (balS (128 - p.1.lv.length) p.1) (staOk_iff.2 ⟨by rw [isBal, c.m, d |> decide_eq_true]; rfl, c.c⟩)
  exact ⟨f, b.trans (e.trans g)⟩
theorem ad1_none (W : List Int) (hW : ∀ k : Nat, rd W (k : Int) = 0) : ∀ (k : Nat) (s : Sta) (C : List Ce), ad1 W k s C = (s, C)
  | 0, s, C => rfl
  | k + 1, s, C => by rw [ad1, hW k, if_neg (by omega), if_neg (by omega)]; exact ad1_none W hW k s C
theorem ad2_none : ∀ (d i : Nat) (s : Sta), ad2 [] d i s = s
  | 0, i, s => rfl
  | d + 1, i, s => by
    rw [ad2]
    split
    · rw [if_neg (by simp [adC])]; exact ad2_none d (i + 1) s
    · rfl
theorem adS_none {s : Sta} {hi lo : Int} (h : staOk s.ro s.lv s.ms s.ts s.bd = true) (hh : 200000000 ≤ hi) (hl : lo ≤ 0) : adS s hi lo = s := by
  have hW : ∀ k : Nat, rd (wishTo s hi lo s.lv.length) (k : Int) = 0 := fun k => by
    rcases Nat.lt_or_ge k s.lv.length with h1 | h1
    · have hj := jumpV_range (StF.of h) h1
      rw [wishTo_rd _ _ _ _ _ h1, wishV, if_neg (by omega), if_neg (by omega)]
    · rw [rd_nat, List.getD_eq_getElem?_getD, List.getElem?_eq_none (by rw [wishTo_len]; exact h1)]
      rfl
  have hu : unbal s.lv < 0 := by
    have := (staOk_iff.1 h).1
    rw [isBal, Bool.and_eq_true, decide_eq_true_iff] at this
    exact this.2
  rw [adS, ad1_none _ hW, balS_id hu, ad2_none]
end Go.Proofs.Ytaidbdogolhnjaa.U
set_option linter.unusedVariables false
set_option linter.unusedSimpArgs false
namespace Go.Proofs.Ytaidbdogolhnjaa.U
open Go.RowKit Go.Lib Go.Proofs.YtaidbdogolhnjaaW.PrintWords

open Go.Proofs.YtaidbdogolhnjaaW.PrintLast Go.Proofs.YtaidbdogolhnjaaW.PrintMore
section
variable {w w' : World} {K L : Nat → Prop} {P B : Nat} {s : Sta} {vl vm vt vb : Value}
theorem BS.gb (h : BS w K P s vl vm vt vb) (hB : K B) (hg : w.grownBy w' (some B)) : BS w' K P s vl vm vt vb := by
  have f : ∀ q, q < w.heap.size → ¬ K q → w'.heap[q]? = w.heap[q]? := fun q h1 h2 => hg.block q h1 (fun e => h2 (by cases e; exact hB))
  exact ⟨(f P (blk_lt h.st) h.kP).trans h.st, ⟨own_move h.l.out fun q hq => f q (own_lt h.l.out q hq) (h.kl q hq)⟩, ⟨own_move h.m.out fun q hq => f q (own_lt h.m.out q hq) (h.km q hq)⟩, ⟨own_move h.t.out fun q hq => f q (own_lt h.t.out q hq) (h.kt q hq)⟩, ⟨own_move h.b.out fun q hq => f q (own_lt h.b.out q hq) (h.kb q hq)⟩, h.mt, h.tm, h.bm, h.bt, h.kP, h.kl, h.km, h.kt, h.kb, fun q hq => Nat.lt_of_lt_of_le (h.kw q hq) hg.size⟩
theorem blkA (a : Addr) (n : Nat) : (a.add n).block = a.block := by unfold Addr.add; split <;> rfl
theorem BX.gb (h : BX w K P s) (hB : K B) (hg : w.grownBy w' (some B)) : BX w' K P s := by
  obtain ⟨_, _, _, _, h⟩ := h
  exact ⟨_, _, _, _, h.gb hB hg⟩
theorem BX.less (h : BX w K P s) (hL : ∀ q, L q → K q) : BX w L P s := by
  obtain ⟨_, _, _, _, h⟩ := h
  exact ⟨_, _, _, _, h.more fun q hq => .inl (hL q hq)⟩
theorem BS.fresh (h : BS w K P s vl vm vt vb) (b : Bw w w') (hL : ∀ q, L q → K q ∨ (w.heap.size ≤ q ∧ q < w'.heap.size)) : BS w' L P s vl vm vt vb :=
  (h.to b).more fun q hq => (hL q hq).imp_right fun ⟨h1, h2⟩ => ⟨h2, by have := blk_lt h.st; omega, fun e => by have := own_lt h.l.out q e; omega, fun e => by have := own_lt h.m.out q e; omega, fun e => by have := own_lt h.t.out q e; omega, fun e => by have := own_lt h.b.out q e; omega⟩
theorem Fk.gb (hK : ∀ q, K q → q < w.heap.size) (hB : ¬ K B) (hg : w.grownBy w' (some B)) : Fk w w' K := ⟨hg.os, hg.tape, hg.output, hg.size, fun q hq => hg.block q (hK q hq) (fun e => hB (by cases e; exact hq))⟩
end

set_option maxHeartbeats 8000000 in
set_option maxRecDepth 100000 in
theorem impl_adapt (Kp : Nat → Prop) (P : Nat) (s : Sta) (hi lo : Int) (w : World) (h : BX w Kp P s) (hok : staOk s.ro s.lv s.ms s.ts s.bd = true) :
    Calls Try.prog 35 #[.pointer (some ⟨P, 0, none⟩), .int .i64 hi, .int .i64 lo] w fun e w' => (∃ u, e = .returned u) ∧ BX w' Kp P (adS s hi lo) ∧ Fk w w' Kp := by
  have hmm := @run_makeMap Try.prog
  obtain ⟨R, hR⟩ : ∃ R, adS s hi lo = R := ⟨_, rfl⟩
  rw [hR]
  have HV0 := hid (show Vs s from ⟨(isBal_iff.1 (staOk_iff.1 hok).1).1, (staOk_iff.1 hok).2⟩)
  have hn := meshOk_len HV0.out.m
  have hn1 : 1 ≤ s.lv.length := hn.2.2
  have HOK := hid hok
  have HNN := hid (show 1 ≤ s.lv.length ∧ s.lv.length ≤ 128 from ⟨hn1, hn.1⟩)
  obtain ⟨vl, vm, vt, vb, hB⟩ := h
  obtain ⟨A0, c0, A1, c1, A2, c2, A3, c3, rfl, rfl, rfl, rfl⟩ := hB.lits
  have hx := (hB.sto (lo := 0) (fun q hq => by omega)).r
  have k0 := (blk_cell hB.st 0).trans (show _ = some (Value.int .i64 s.ro) from rfl)
  have k1 := (blk_cell hB.st 1).trans (show _ = some (Value.slice A0 s.lv.length c0) from rfl)
  have k2 := (blk_cell hB.st 2).trans (show _ = some (Value.slice A1 s.ms.length c1) from rfl)
  have k3 := (blk_cell hB.st 3).trans (show _ = some (Value.slice A2 s.ts.length c2) from rfl)
  have k4 := (blk_cell hB.st 4).trans (show _ = some (Value.slice A3 s.bd.length c3) from rfl)
  have HB0 := hid hB
  have HX := hid hx
  unfold adS at hR
  obtain ⟨W, hW⟩ : ∃ W, wishTo s hi lo s.lv.length = W := ⟨_, rfl⟩
  rw [hW] at hR
  have HR0 := hid hR
  have HW1 := hid (show ∀ k : Nat, rd W (k : Int) = 1 → (gc s.lv k).l < 4 from fun k hk => wishTo_one k (by rw [hW]; exact hk))
  have HWE := hid hW
  clear hR hW hB hx hok hn hn1
  go_enter Try.func35, Try.ntmps35
  go_wp2_with fail
  refine (impl_Wishes _ s hi lo _ HX.out HOK.out).mono ?_
  rintro e w1 ⟨v, rfl, o1, b1⟩
  rw [HWE.out] at o1
  obtain ⟨AL, cL, rfl, _⟩ := o1.reads
  have hform := FO.form (k := 1) (n := s.lv.length) (c := cL) (A := AL) ⟨o1.out⟩ (by have := HNN.out; omega)
  obtain ⟨ad, rfl, _⟩ := o1.ri.nat 0 (by have := HNN.out; omega)
  obtain ⟨Q, eq, hq1, hq2, _⟩ := hform
  have hadb : ad.block = Q := by have := Option.some.inj eq; rw [this]
  rw [← hadb] at hq1 hq2
  have HCW := hid (show ∀ j, j < s.lv.length → w1.cell? (ad.add j) = some (.int .i64 (rd W (j : Int))) from fun j hj => by
    obtain ⟨_, e, x⟩ := o1.ri.nat j hj
    obtain rfl := Option.some.inj e
    exact x)
  have bm := Bw.box1 w1 (.map #[] 0)
  have HM0 := hid (MpS.made w1)
  obtain ⟨B, hBn⟩ : ∃ B, w1.heap.size = B := ⟨_, rfl⟩
  have hsz : (w1.alloc (.map #[] 0)).heap.size = B + 1 := by simp [hBn]
  have hws := b1.size
  rw [hBn] at HM0 hws
  have HQB := hid (show ad.block ≠ B ∧ w.heap.size ≤ B from ⟨by omega, hws⟩)
  have HCM := hid (show ∀ j, j < s.lv.length → (w1.alloc (.map #[] 0)).cell? (ad.add j) = some (.int .i64 (rd W (j : Int))) from fun j hj => pw_cell_below bm.out (HCW.out j hj))
  obtain ⟨K', hK'⟩ : ∃ K' : Nat → Prop, (fun q => Kp q ∨ q = B ∨ q = ad.block) = K' := ⟨_, rfl⟩
  have hKB : K' B := by rw [← hK']; exact .inr (.inl rfl)
  have hKQ : K' ad.block := by rw [← hK']; exact .inr (.inr rfl)
  have hKp : ∀ q, Kp q → K' q := fun q hq => by rw [← hK']; exact .inl hq
  have hX0 : BX (w1.alloc (.map #[] 0)) K' P s := ⟨_, _, _, _, HB0.out.fresh (b1.trans bm) (fun q hq => by
    rw [← hK'] at hq
    rcases hq with hq | rfl | rfl
    · exact .inl hq
    · exact .inr (by omega)
    · exact .inr (by omega))⟩
  have HKK := hid (And.intro hKB (And.intro hKQ hKp))
  have HKw := hid (show (∀ q, Kp q → q < w.heap.size) ∧ ¬ Kp B from ⟨HB0.out.kw, fun e => by have := HB0.out.kw B e; omega⟩)
  have HF0 := hid (Fk.bw (b1.trans bm) HB0.out.kw)
  have HX0 := hid hX0
  clear hX0 hKB hKQ hKp hsz hws o1 eq hq1 hq2 hadb b1 bm hK'
  have HBN := hid hBn
  clear hBn
  have e0 : IntKind.i64.wrap ((s.lv.length : Int) - 1) = (s.lv.length : Int) - 1 := i64w (by have := HNN.out; omega) (by have := HNN.out; omega)
  go_wp2
  rw [HBN.out]
  clear k0 k1 k2 k3 k4 e0 hmm
  generalize (w1.alloc (.map #[] 0)) = wm at *
  go_loopw [8] (fun v8 wr => ∃ (k : Nat) (s' : Sta) (C : List Ce) (x : Int), v8 = .int .i64 x ∧ x = (k : Int) - 1 ∧ k ≤ s.lv.length ∧ Hid (ad2 (ad1 W k s' C).2 128 0 (balS (128 - (ad1 W k s' C).1.lv.length) (ad1 W k s' C).1) = R) ∧ Hid (Vs s') ∧ Hid (k ≤ s'.lv.length ∧ ∀ j, j < k → gc s'.lv j = gc s.lv j) ∧ Hid (BX wr K' P s') ∧ Hid (∃ m, m + k ≤ 128 ∧ MpS wr B m C) ∧ Hid (∀ j, j < s.lv.length → wr.cell? (ad.add j) = some (.int .i64 (rd W (j : Int)))) ∧ Hid (Fk w wr Kp)) (fun v8 _ => (Go.RowKit.intOf v8 + 1).toNat)
  case atStart => exact ⟨s.lv.length, s, [], _, rfl, rfl, Nat.le_refl _, HR0, HV0, hid ⟨Nat.le_refl _, fun _ _ => rfl⟩, HX0, hid ⟨0, by have := HNN.out; omega, HM0.out⟩, HCM, HF0⟩
  case round =>
    obtain ⟨k, s', C, x, rfl, hx, hk, hR, hV, hG, hX, hM, hC, hF⟩ := hrel
    cases k with
    | zero =>
      obtain rfl : x = -1 := by omega
      have hR1 := hR.out
      rw [ad1] at hR1
      obtain ⟨m, hm, hM1⟩ := hM.out
      have HR1 := hid hR1
      have HM1 := hid hM1
      clear hR1 hM1 hR hM hx hk hG
      go_wp2_with fail
      refine (impl_balance K' P s' _ hX.out hV.out).mono ?_
      rintro e w2 ⟨⟨u, rfl⟩, hx2, f2⟩
      obtain ⟨hv2, _, _⟩ := balS_ok (128 - s'.lv.length) s' hV.out (by omega)
      have HR2 := HR1.out
      obtain ⟨S2, hS2⟩ : ∃ x, balS (128 - s'.lv.length) s' = x := ⟨_, rfl⟩
      replace HR2 := hid (show ad2 C 128 0 S2 = R by rw [← hS2]; exact HR2)
      rw [hS2] at hx2 hv2
      have HV2 := hid hv2
      have HX2 := hid hx2
      have HM2 := hid (HM1.out.kept (f2.block B HKK.out.1))
      have HF2 := hid (hF.out.trans (f2.less HKK.out.2.2))
      have HD2 := hid (show S2.lv.length ≤ 128 + 0 from (meshOk_len hv2.m).1)
      clear hS2 hx2 hv2 f2 HM1 HR1 hF hX hV hC HM0 HX0 HF0 HCM
      go_wp2
      go_loopw [9] (fun v9 wr => ∃ (i d : Nat) (s' : Sta), v9 = .int .i64 i ∧ i ≤ 127 ∧ Hid (ad2 C d i s' = R) ∧ Hid (s'.lv.length ≤ d + i) ∧ Hid (Vs s') ∧ Hid (BX wr K' P s') ∧ Hid (MpS wr B m C) ∧ Hid (Fk w wr Kp)) (fun v9 _ => 128 - (Go.RowKit.intOf v9).toNat)
      case atStart => exact ⟨0, 128, S2, rfl, by omega, HR2, HD2, HV2, HX2, HM2, HF2⟩
      case round =>
        obtain ⟨i, d, s3, rfl, hi3, hR, hd, hV, hX, hM, hF⟩ := hrel
        have HMX := hid (meshOk_len hV.out.m).1
        obtain ⟨vl, vm, vt, vb, hB⟩ := hX.out
        obtain ⟨D0, d0, D1, d1, D2, d2, D3, d3, rfl, rfl, rfl, rfl⟩ := hB.lits
        have k0 := (blk_cell hB.st 0).trans (show _ = some (Value.int .i64 s3.ro) from rfl)
        have k1 := (blk_cell hB.st 1).trans (show _ = some (Value.slice D0 s3.lv.length d0) from rfl)
        have HB := hid hB
        have e1 : IntKind.i64.wrap ((i : Int) + 1) = (i : Int) + 1 := i64w (by omega) (by omega)
        clear hB
        by_cases hlt : i + 1 < s3.lv.length
        · have t1 : decide ((i : Int) + 1 < (s3.lv.length : Int)) = true := decide_eq_true (by clear e1; omega)
          have HLT := hid hlt
          obtain ⟨dd, rfl⟩ : ∃ dd, d = dd + 1 := ⟨d - 1, by have := hd.out; clear e1; omega⟩
          have hnext := hR.out
          rw [ad2, if_pos hlt] at hnext
          have HNX := hid hnext
          obtain ⟨hc1, hc2, _, _, hc5, _⟩ := hasC_iff.1 hV.out.c
          have hcell := hid hc5
          have hls := hid (And.intro hc1 hc2)
          have HI2 := hid (show i + 1 ≤ 127 ∧ 128 - (i + 1) < 128 - i by have := HMX.out; clear e1; omega)
          obtain ⟨aa, rfl, x0, x1, x2⟩ := (FO.idR HB.out.l).at i (by clear e1; omega)
          obtain ⟨_, ea, y0, y1, y2⟩ := (FO.idR HB.out.l).at (i + 1) hlt
          obtain rfl := Option.some.inj ea
          have hlk1 := hM.out.look (meshOk_all hV.out.m _ (gc_mem (show i < s3.lv.length by clear e1; omega)))
          have hlk2 := hM.out.look (meshOk_all hV.out.m _ (gc_mem hlt))
          obtain ⟨ca, hca⟩ : ∃ c, decide (gc s3.lv i ∈ C) = c := ⟨_, rfl⟩
          obtain ⟨cb, hcb⟩ : ∃ c, decide (gc s3.lv (i + 1) ∈ C) = c := ⟨_, rfl⟩
          rw [hca] at hlk1
          rw [hcb] at hlk2
          have HAD := hid (show adC C s3 i = ((ca && cb) && mayB s3.lv i) by rw [adC, hca, hcb])
          have i4 : (0 : Int) ≤ (i : Int) := by clear e1; omega
          have i5 : (i : Int) < (s3.lv.length : Int) := by clear e1; omega
          have i6 : (0 : Int) ≤ (i : Int) + 1 := by clear e1; omega
          have i7 : (i : Int) + 1 < (s3.lv.length : Int) := by clear e1; omega
          have t3 : decide (0 ≤ i) = true := decide_eq_true (Nat.zero_le _)
          have htn : ((i : Int) + 1).toNat = i + 1 := by clear e1; omega
          clear hnext hc1 hc2 hc5 ea hca hcb hlt hi3 hR hX
          by_cases hc : ca = false ∧ cb = false
          · obtain ⟨rfl, rfl⟩ := hc
            have HNX2 := hid (show ad2 C dd (i + 1) s3 = R by have h := HNX.out; rw [HAD.out, if_neg (by simp)] at h; exact h)
            have HX3 := hid (show BX wr K' P s3 from ⟨_, _, _, _, HB.out⟩)
            clear HNX HAD HB
            go_wp2
            go_roundw
            case rel => exact ⟨i + 1, dd, s3, by first | rfl | go_num, HI2.out.1, HNX2, hid (by have := hd.out; clear e1 htn; omega), hV, HX3, hM, hF⟩
            case measure => have hz := HI2.out; clear e1 htn; simp [Go.RowKit.intOf]; omega
          by_cases hc : ca = false ∧ cb = true
          · obtain ⟨rfl, rfl⟩ := hc
            have HNX2 := hid (show ad2 C dd (i + 1) s3 = R by have h := HNX.out; rw [HAD.out, if_neg (by simp)] at h; exact h)
            have HX3 := hid (show BX wr K' P s3 from ⟨_, _, _, _, HB.out⟩)
            clear HNX HAD HB
            go_wp2
            go_roundw
            case rel => exact ⟨i + 1, dd, s3, by first | rfl | go_num, HI2.out.1, HNX2, hid (by have := hd.out; clear e1 htn; omega), hV, HX3, hM, hF⟩
            case measure => have hz := HI2.out; clear e1 htn; simp [Go.RowKit.intOf]; omega
          by_cases hc : ca = true ∧ cb = false
          · obtain ⟨rfl, rfl⟩ := hc
            have HNX2 := hid (show ad2 C dd (i + 1) s3 = R by have h := HNX.out; rw [HAD.out, if_neg (by simp)] at h; exact h)
            have HX3 := hid (show BX wr K' P s3 from ⟨_, _, _, _, HB.out⟩)
            clear HNX HAD HB
            go_wp2
            go_roundw
            case rel => exact ⟨i + 1, dd, s3, by first | rfl | go_num, HI2.out.1, HNX2, hid (by have := hd.out; clear e1 htn; omega), hV, HX3, hM, hF⟩
            case measure => have hz := HI2.out; clear e1 htn; simp [Go.RowKit.intOf]; omega
          obtain ⟨rfl, rfl⟩ : ca = true ∧ cb = true := by
            cases ca <;> cases cb <;> simp_all
          go_wp2_with fail
          refine (impl_mayCoarsen s3.ro (some aa) _ d0 s3.lv i _ (FO.idR HB.out.l) HLT.out (by have := HMX.out; omega)).mono ?_
          rintro e w3 ⟨rfl, b3⟩
          obtain ⟨mb, hmb⟩ : ∃ mb, mayB s3.lv i = mb := ⟨_, rfl⟩
          rw [hmb]
          have HMB := hid hmb
          have HB3 := hid (HB.out.to b3)
          have HM3 := hid (hM.out.kept (b3.out.block B hM.out.lt))
          have HF3 := hid (hF.out.trans (Fk.bw b3 (fun q hq => Nat.lt_of_lt_of_le (HKw.out.1 q hq) hF.out.size)))
          clear hmb b3 x0 x1 x2 y0 y1 y2 hlk1 hlk2 k0 k1 HB hM hF
          cases mb with
          | false =>
            have HNX2 := hid (show ad2 C dd (i + 1) s3 = R by have h := HNX.out; rw [HAD.out, HMB.out, if_neg (by decide)] at h; exact h)
            have HX3 := hid (show BX w3 K' P s3 from ⟨_, _, _, _, HB3.out⟩)
            clear HNX HAD HB3
            go_wp2
            go_roundw
            case rel => exact ⟨i + 1, dd, s3, by first | rfl | go_num, HI2.out.1, HNX2, hid (by have := hd.out; clear e1 htn; omega), hV, HX3, HM3, HF3⟩
            case measure => have hz := HI2.out; clear e1 htn; simp [Go.RowKit.intOf]; omega
          | true =>
            have HNX2 := hid (show ad2 C dd (i + 1) (merS s3 i) = R by have h := HNX.out; rw [HAD.out, HMB.out, if_pos (by decide)] at h; exact h)
            clear HNX HAD
            go_wp2_with fail
            refine (impl_Scoarsen K' P s3 _ _ _ _ i _ HB3.out HLT.out hls.out.1 hls.out.2 (by have := HMX.out; omega) (fun j hj => (hcell.out j hj).1) (fun j hj => by have := (hcell.out j hj); omega)).mono ?_
            rintro e w4 ⟨⟨u4, rfl⟩, h4, f4⟩
            have HX4 := hid h4
            have HM4 := hid (HM3.out.kept (f4.block B HKK.out.1))
            have HF4 := hid (HF3.out.trans (f4.less HKK.out.2.2))
            have HV4 := hid (hV.out.mer HLT.out HMB.out)
            have HD4 := hid (show (merS s3 i).lv.length ≤ dd + (i + 1) by
              have h1 : (merS s3 i).lv.length = s3.lv.length - 1 := merC_length HLT.out
              have := hd.out
              clear e1 htn
              omega)
            clear h4 f4 HB3 HM3 HF3
            go_wp2
            go_roundw
            case rel => exact ⟨i + 1, dd, merS s3 i, by first | rfl | go_num, HI2.out.1, HNX2, HD4, HV4, HX4, HM4, HF4⟩
            case measure => have hz := HI2.out; clear e1 htn; simp [Go.RowKit.intOf]; omega
        · have t1 : decide ((i : Int) + 1 < (s3.lv.length : Int)) = false := decide_eq_false (by clear e1; omega)
          have HFN := hid (show s3 = R by
            have h := hR.out
            cases d with
            | zero => exact h
            | succ d => rw [ad2, if_neg hlt] at h; exact h)
          have HRX := hid (show BX wr Kp P R by rw [← HFN.out]; exact BX.less ⟨_, _, _, _, HB.out⟩ HKK.out.2.2)
          clear hR hX HB
          go_wp2
          exact bodyPost_end (v := .tuple #[]) (by simp [results, Try.results35, go_sem]) rfl ⟨⟨_, rfl⟩, HRX.out, hF.out⟩
    | succ j =>
      obtain rfl : x = (j : Int) := by omega
      have e1 : IntKind.i64.wrap ((j : Int) - 1) = (j : Int) - 1 := i64w (by have := HNN.out; omega) (by have := HNN.out; omega)
      have t1 : decide ((j : Int) ≥ 0) = true := decide_eq_true (by clear e1; omega)
      have t2 : decide (0 ≤ (j : Int)) = true := decide_eq_true (by clear e1; omega)
      have t3 : decide (0 ≤ j) = true := decide_eq_true (Nat.zero_le _)
      have xj := hC.out j hk
      obtain ⟨y, hy⟩ : ∃ y, rd W (j : Int) = y := ⟨_, rfl⟩
      rw [hy] at xj
      have hl4 := HW1.out j
      rw [hy] at hl4
      rw [← hG.out.2 j (by clear e1; omega)] at hl4
      have hnext := hR.out
      rw [ad1, hy] at hnext
      have HNX := hid hnext
      have HL4 := hid hl4
      have HJ := hid (show j < s'.lv.length from hG.out.1)
      have HGJ := hid (show ∀ i, i < j → gc s'.lv i = gc s.lv i from fun i hi => hG.out.2 i (by omega))
      have HJN := hid (show j ≤ s.lv.length ∧ j < s.lv.length from ⟨by omega, hk⟩)
      obtain ⟨hc1, hc2, _, _, hc5, _⟩ := hasC_iff.1 hV.out.c
      have hcell := hid (hc5 j HJ.out)
      have hcx := hid (meshOk_all hV.out.m _ (gc_mem HJ.out))
      have hls := hid (And.intro hc1 hc2)
      have HMX := hid (meshOk_len hV.out.m).1
      obtain ⟨m, hm, hM1⟩ := hM.out
      have HM1 := hid hM1
      have Hm := hid hm
      obtain ⟨vl, vm, vt, vb, hB⟩ := hX.out
      obtain ⟨D0, d0, D1, d1, D2, d2, D3, d3, rfl, rfl, rfl, rfl⟩ := hB.lits
      have k1 := (blk_cell hB.st 1).trans (show _ = some (Value.slice D0 s'.lv.length d0) from rfl)
      have HB := hid hB
      clear hnext hl4 hc1 hc2 hc5 hM1 hm hM hR hG hB hx hX
      have i4 : (0 : Int) ≤ (j : Int) := by clear e1; omega
      have i5 : (j : Int) < (s.lv.length : Int) := by clear e1; omega
      by_cases q1 : y = 1
      · subst q1
        have HN2 := HNX.out
        rw [if_pos rfl, if_neg (by decide)] at HN2
        have HNX2 := hid HN2
        clear HN2 HNX
        have HL := hid (HL4.out rfl)
        clear HL4
        go_wp2_with fail
        refine (impl_Srefine K' P s' _ _ _ _ j _ HB.out HJ.out hls.out.1 hls.out.2 (by have := HMX.out; omega) hcx.out hcell.out.1 hcell.out.2).mono ?_
        rintro e w2 ⟨u, vl2, vm2, vt2, rfl, h2, f2⟩
        have HX2 := hid (show BX w2 K' P (refS s' j) from ⟨_, _, _, _, h2⟩)
        have HM2 := hid (show ∃ m, m + j ≤ 128 ∧ MpS w2 B m C from ⟨m, by have := Hm.out; clear e1; omega, HM1.out.kept (f2.block B HKK.out.1)⟩)
        have HC2 := hid (show ∀ j, j < s.lv.length → w2.cell? (ad.add j) = some (.int .i64 (rd W (j : Int))) from fun i hi => Eq.trans (b := wr.cell? (ad.add i)) (World.cell?_of_block (by rw [blkA]; exact f2.block ad.block HKK.out.2.1)) (hC.out i hi))
        have HF2 := hid (hF.out.trans (f2.less HKK.out.2.2))
        have HV2 := hid (hV.out.ref HJ.out HL.out)
        have hl1 : (refS s' j).lv.length = s'.lv.length + 1 := splitC_length HJ.out
        have HG2 := hid (show j ≤ (refS s' j).lv.length ∧ ∀ i, i < j → gc (refS s' j).lv i = gc s.lv i from ⟨by have := HJ.out; clear e1; omega, fun i hi => by
          show gc (splitC s'.lv j) i = _
          rw [gc_split HJ.out, if_pos hi]
          exact HGJ.out i hi⟩)
        clear h2 f2 hl1 k1 HB xj hF hC HM1
        go_wp2
        go_roundw
        case rel => exact ⟨j, refS s' j, C, _, rfl, by first | rfl | go_num, HJN.out.1, HNX2, HV2, HG2, HX2, HM2, HC2, HF2⟩
        case measure => first | (simp [Go.RowKit.intOf]; done) | (simp [Go.RowKit.intOf]; clear e1; omega)
      · by_cases q2 : y = -1
        · subst q2
          have HN2 := HNX.out
          rw [if_neg q1, if_pos rfl] at HN2
          have HNX2 := hid HN2
          obtain ⟨ad2, rfl, x0, x1, x2⟩ := (FO.idR HB.out.l).at j HJ.out
          obtain ⟨w2, hput, hM2, hg2⟩ := HM1.out.put (by have := Hm.out; clear e1; omega) hcx.out
          have i6 : (j : Int) < (s'.lv.length : Int) := by have := HJ.out; clear e1; omega
          have HX2 := hid (show BX w2 K' P s' from ⟨_, _, _, _, HB.out.gb HKK.out.1 hg2⟩)
          have HM2 := hid (show ∃ m, m + j ≤ 128 ∧ MpS w2 B m (gc s'.lv j :: C) from ⟨m + 1, by have := Hm.out; clear e1; omega, hM2⟩)
          have HC2 := hid (show ∀ j, j < s.lv.length → w2.cell? (ad.add j) = some (.int .i64 (rd W (j : Int))) from fun i hi => Eq.trans (b := wr.cell? (ad.add i)) (World.cell?_of_block (hg2.block (ad.add i).block (World.block_lt_of_cell? wr (ad.add i) (hC.out i hi)) (fun e => HQB.out.1 (by rw [blkA] at e; cases e; rfl)))) (hC.out i hi))
          have HF2 := hid (hF.out.trans (Fk.gb (fun q hq => Nat.lt_of_lt_of_le (HKw.out.1 q hq) hF.out.size) HKw.out.2 hg2))
          have HG2 := hid (show j ≤ s'.lv.length ∧ ∀ i, i < j → gc s'.lv i = gc s.lv i from ⟨by have := HJ.out; clear e1; omega, HGJ.out⟩)
          clear HN2 HNX HM1 hM2 hg2 hF hC
          go_wp2
          go_roundw
          case rel => exact ⟨j, s', gc s'.lv j :: C, _, rfl, by first | rfl | go_num, HJN.out.1, HNX2, hV, HG2, HX2, HM2, HC2, HF2⟩
          case measure => first | (simp [Go.RowKit.intOf]; done) | (simp [Go.RowKit.intOf]; clear e1; omega)
        · have u1 : decide (y = 1) = false := decide_eq_false q1
          have u2 : decide (y = -1) = false := decide_eq_false q2
          have HN2 := HNX.out
          rw [if_neg q1, if_neg q2] at HN2
          have HNX2 := hid HN2
          have HX2 := hid (show BX wr K' P s' from ⟨_, _, _, _, HB.out⟩)
          have HM2 := hid (show ∃ m, m + j ≤ 128 ∧ MpS wr B m C from ⟨m, by have := Hm.out; clear e1; omega, HM1.out⟩)
          have HG2 := hid (show j ≤ s'.lv.length ∧ ∀ i, i < j → gc s'.lv i = gc s.lv i from ⟨by have := HJ.out; clear e1; omega, HGJ.out⟩)
          clear HN2 HB k1 HM1 HNX
          go_wp2
          go_roundw
          case rel => exact ⟨j, s', C, _, rfl, by first | rfl | go_num, HJN.out.1, HNX2, hV, HG2, HX2, HM2, hC, hF⟩
          case measure => first | (simp [Go.RowKit.intOf]; done) | (simp [Go.RowKit.intOf]; clear e1; omega)
end Go.Proofs.Ytaidbdogolhnjaa.U
set_option linter.unusedVariables false
set_option linter.unusedSimpArgs false
namespace Go.Proofs.Ytaidbdogolhnjaa.U
open Go.RowKit Go.Lib Go.Proofs.YtaidbdogolhnjaaW.PrintWords

open Go.Proofs.YtaidbdogolhnjaaW.PrintLast Go.Proofs.YtaidbdogolhnjaaW.PrintMore
set_option maxHeartbeats 8000000 in
set_option maxRecDepth 100000 in
theorem impl_AdaptState (x : Value) (s : Sta) (hi lo : Int) (w : World) (hx : StR w x s) (hok : staOk s.ro s.lv s.ms s.ts s.bd = true) :
    Calls Try.prog 12 #[x, .int .i64 hi, .int .i64 lo] w fun e w' => ∃ v, e = .returned v ∧ StO w' w.heap.size w'.heap.size v (adS s hi lo) ∧ Bw w w' := by
  obtain ⟨RV, hRV⟩ : ∃ r, adS s hi lo = r := ⟨_, rfl⟩
  rw [hRV]
  have HRV := hid hRV
  clear hRV
  have hs := StG.of hok
  have hmx := hs.f.n
  have hx0 := hx
  have HL := hid (show s.lv.length ≤ 1000000 ∧ s.ms.length ≤ 1000000000 ∧ s.ts.length ≤ 1000000000 ∧ s.bd.length ≤ 1000000000 from ⟨by omega, by rw [hs.f.ms]; omega, by rw [hs.f.ts]; omega, by have := hs.f.bd; omega⟩)
  obtain ⟨A0, c0, A1, c1, A2, c2, A3, c3, rfl, r0, r1, r2, r3⟩ := hx
  have b0 := (Bw.box1 w (.cells #[.int .i64 s.ro, .slice A0 s.lv.length c0, .slice A1 s.ms.length c1, .slice A2 s.ts.length c2, .slice A3 s.bd.length c3] 29)).alloc (.cells #[.int .i64 0, .slice none 0 0, .slice none 0 0, .slice none 0 0, .slice none 0 0] 29)
  have g0 := box_cell ((Bw.refl (w.alloc (.cells #[.int .i64 s.ro, .slice A0 s.lv.length c0, .slice A1 s.ms.length c1, .slice A2 s.ts.length c2, .slice A3 s.bd.length c3] 29))).alloc (.cells #[.int .i64 0, .slice none 0 0, .slice none 0 0, .slice none 0 0, .slice none 0 0] 29)) 0
  have g1 := box_cell ((Bw.refl (w.alloc (.cells #[.int .i64 s.ro, .slice A0 s.lv.length c0, .slice A1 s.ms.length c1, .slice A2 s.ts.length c2, .slice A3 s.bd.length c3] 29))).alloc (.cells #[.int .i64 0, .slice none 0 0, .slice none 0 0, .slice none 0 0, .slice none 0 0] 29)) 1
  have g2 := box_cell ((Bw.refl (w.alloc (.cells #[.int .i64 s.ro, .slice A0 s.lv.length c0, .slice A1 s.ms.length c1, .slice A2 s.ts.length c2, .slice A3 s.bd.length c3] 29))).alloc (.cells #[.int .i64 0, .slice none 0 0, .slice none 0 0, .slice none 0 0, .slice none 0 0] 29)) 2
  have g3 := box_cell ((Bw.refl (w.alloc (.cells #[.int .i64 s.ro, .slice A0 s.lv.length c0, .slice A1 s.ms.length c1, .slice A2 s.ts.length c2, .slice A3 s.bd.length c3] 29))).alloc (.cells #[.int .i64 0, .slice none 0 0, .slice none 0 0, .slice none 0 0, .slice none 0 0] 29)) 3
  have g4 := box_cell ((Bw.refl (w.alloc (.cells #[.int .i64 s.ro, .slice A0 s.lv.length c0, .slice A1 s.ms.length c1, .slice A2 s.ts.length c2, .slice A3 s.bd.length c3] 29))).alloc (.cells #[.int .i64 0, .slice none 0 0, .slice none 0 0, .slice none 0 0, .slice none 0 0] 29)) 4
  simp only [List.getElem?_toArray, List.getElem?_cons_zero, List.getElem?_cons_succ] at g0 g1 g2 g3 g4
  have hR := heap_alloc_new (w.alloc (.cells #[.int .i64 s.ro, .slice A0 s.lv.length c0, .slice A1 s.ms.length c1, .slice A2 s.ts.length c2, .slice A3 s.bd.length c3] 29)) (.cells #[.int .i64 0, .slice none 0 0, .slice none 0 0, .slice none 0 0, .slice none 0 0] 29 (0, 0))
  rw [show (w.alloc (.cells #[.int .i64 s.ro, .slice A0 s.lv.length c0, .slice A1 s.ms.length c1, .slice A2 s.ts.length c2, .slice A3 s.bd.length c3] 29)).heap.size = w.heap.size + 1 by simp] at hR
  have HR := hid hR
  have HOK := hid hok
  clear hR hok hs hmx
  go_enter Try.func12, Try.ntmps12
  go_upto_region 1 with fail
  generalize ((w.alloc (.cells #[.int .i64 s.ro, .slice A0 s.lv.length c0, .slice A1 s.ms.length c1, .slice A2 s.ts.length c2, .slice A3 s.bd.length c3] 29)).alloc (.cells #[.int .i64 0, .slice none 0 0, .slice none 0 0, .slice none 0 0, .slice none 0 0] 29)) = W1 at *
  go_wp2_with fail
  refine (impl_copyState _ s _ (hx0.to b0) HL.out.1 HL.out.2.1 HL.out.2.2.1 HL.out.2.2.2).mono ?_
  rintro e w2 ⟨v, rfl, hO, b2⟩
  obtain ⟨vl, vm, vt, vb, rfl, hl, hm, ht_, hb, ap⟩ := hO
  obtain ⟨B0, d0, rfl, _, _⟩ := hl.reads
  obtain ⟨B1, d1, rfl, _, _⟩ := hm.reads
  obtain ⟨B2, d2, rfl, _, _⟩ := ht_.reads
  obtain ⟨B3, d3, rfl, _, _⟩ := hb.reads
  have bx := Bw.box1 w2 (.cells #[.int .i64 s.ro, .slice B0 s.lv.length d0, .slice B1 s.ms.length d1, .slice B2 s.ts.length d2, .slice B3 s.bd.length d3] 29)
  have hF := heap_alloc_new w2 (.cells #[.int .i64 s.ro, .slice B0 s.lv.length d0, .slice B1 s.ms.length d1, .slice B2 s.ts.length d2, .slice B3 s.bd.length d3] 29 (0, 0))
  have hO2 : StO w2 W1.heap.size w2.heap.size (.agg #[.int .i64 s.ro, .slice B0 s.lv.length d0, .slice B1 s.ms.length d1, .slice B2 s.ts.length d2, .slice B3 s.bd.length d3]) s := ⟨_, _, _, _, rfl, hl, hm, ht_, hb, ap⟩
  have hBS := BS.of_StO (hO2.to bx) hF b2.size
  have hB1 := b2.trans bx
  have hw1 : w.heap.size + 1 < W1.heap.size := blk_lt HR.out
  have HRR := hid ((hB1.out.block _ (blk_lt HR.out)).trans HR.out)
  have HB := hid (b0.trans hB1)
  replace g0 := pw_cell_below hB1.out g0
  replace g1 := pw_cell_below hB1.out g1
  replace g2 := pw_cell_below hB1.out g2
  replace g3 := pw_cell_below hB1.out g3
  replace g4 := pw_cell_below hB1.out g4
  have HBS := hid hBS
  clear hO2 hl hm ht_ hb bx b2 hB1 b0 hF hBS
  go_upto_region 2 with fail
  generalize (w2.alloc (.cells #[.int .i64 s.ro, .slice B0 s.lv.length d0, .slice B1 s.ms.length d1, .slice B2 s.ts.length d2, .slice B3 s.bd.length d3] 29)) = w3 at *
  generalize w2.heap.size = P at *
  go_wp2_with fail
  refine (impl_StateOk s.ro A0 _ c0 s.lv A1 _ c1 s.ms A2 _ c2 s.ts A3 _ c3 s.bd _ (r0.to HB.out) (r1.to HB.out) (r2.to HB.out) (r3.to HB.out)).mono ?_
  rintro e w4 ⟨rfl, b4⟩
  rw [HOK.out]
  replace g0 := pw_cell_below b4.out g0
  replace g1 := pw_cell_below b4.out g1
  replace g2 := pw_cell_below b4.out g2
  replace g3 := pw_cell_below b4.out g3
  replace g4 := pw_cell_below b4.out g4
  have HB4 := hid (HB.out.trans b4)
  have HBS4 := hid (HBS.out.to b4)
  have HRR4 := hid ((b4.out.block _ (blk_lt HRR.out)).trans HRR.out)
  clear b4 HB HBS HRR
  go_wp2_with fail
  refine (impl_adapt (· < W1.heap.size) P s hi lo _ ⟨_, _, _, _, HBS4.out⟩ HOK.out).mono ?_
  rintro e w6 ⟨⟨u, rfl⟩, h6', f6⟩
  rw [HRV.out] at h6'
  obtain ⟨vl', vm', vt', vb', h6⟩ := h6'
  obtain ⟨E0, f0, E1, f1, E2, f2, E3, f3, rfl, rfl, rfl, rfl⟩ := h6.lits
  have HB6 := hid (f6.below (w0 := w) HB4.out (fun q hq => by show q < W1.heap.size; omega))
  have hRR6 := (f6.block (w.heap.size + 1) (by show _ < W1.heap.size; omega)).trans HRR4.out
  obtain ⟨nl, hnl⟩ : ∃ n, RV.lv.length = n := ⟨_, rfl⟩
  obtain ⟨nm, hnm⟩ : ∃ n, RV.ms.length = n := ⟨_, rfl⟩
  obtain ⟨nt, hnt⟩ : ∃ n, RV.ts.length = n := ⟨_, rfl⟩
  obtain ⟨nb, hnb⟩ : ∃ n, RV.bd.length = n := ⟨_, rfl⟩
  have hst6 := h6.st
  have hst := h6.sto (lo := W1.heap.size) (fun q hq => hq)
  rw [hnl, hnm, hnt, hnb] at hst6 hst
  have k0 := (blk_cell hst6 0).trans (show _ = some (Value.int .i64 RV.ro) from rfl)
  have k1 := (blk_cell hst6 1).trans (show _ = some (Value.slice E0 nl f0) from rfl)
  have k2 := (blk_cell hst6 2).trans (show _ = some (Value.slice E1 nm f1) from rfl)
  have k3 := (blk_cell hst6 3).trans (show _ = some (Value.slice E2 nt f2) from rfl)
  have k4 := (blk_cell hst6 4).trans (show _ = some (Value.slice E3 nb f3) from rfl)
  clear h6 f6 hst6 HBS4 HB4 hnl hnm hnt hnb
  have s0 := (blk_cell hRR6 0).trans (show _ = some (Value.int .i64 0) from rfl)
  have f0_ := blk_frozen hRR6 0
  have s1 := (blk_cell hRR6 1).trans (show _ = some (Value.slice none 0 0) from rfl)
  have f1_ := blk_frozen hRR6 1
  have s2 := (blk_cell hRR6 2).trans (show _ = some (Value.slice none 0 0) from rfl)
  have f2_ := blk_frozen hRR6 2
  have s3 := (blk_cell hRR6 3).trans (show _ = some (Value.slice none 0 0) from rfl)
  have f3_ := blk_frozen hRR6 3
  have s4 := (blk_cell hRR6 4).trans (show _ = some (Value.slice none 0 0) from rfl)
  have f4_ := blk_frozen hRR6 4
  have hwi := (((((Wi.refl w6 (w.heap.size + 1) (w.heap.size + 1 + 1)).trans (Wi.set _ _ 0 (.int .i64 RV.ro))).trans (Wi.set _ _ 1 (.slice E0 nl f0))).trans (Wi.set _ _ 2 (.slice E1 nm f1))).trans (Wi.set _ _ 3 (.slice E2 nt f2))).trans (Wi.set _ _ 4 (.slice E3 nb f3))
  have HFF := hid (show (((((w6.setCell ⟨w.heap.size + 1, 0, none⟩ (.int .i64 RV.ro)).setCell ⟨w.heap.size + 1, 1, none⟩ (.slice E0 nl f0)).setCell ⟨w.heap.size + 1, 2, none⟩ (.slice E1 nm f1)).setCell ⟨w.heap.size + 1, 3, none⟩ (.slice E2 nt f2)).setCell ⟨w.heap.size + 1, 4, none⟩ (.slice E3 nb f3)).heap[w.heap.size + 1]? = some (.cells #[.int .i64 RV.ro, .slice E0 nl f0, .slice E1 nm f1, .slice E2 nt f2, .slice E3 nb f3] 29 (0, 0)) from (blk_set (blk_set (blk_set (blk_set (blk_set hRR6 0 (.int .i64 RV.ro)) 1 (.slice E0 nl f0)) 2 (.slice E1 nm f1)) 3 (.slice E2 nt f2)) 4 (.slice E3 nb f3)))
  have HST := hid (StO_mono (hst.wi hwi (Or.inr (by omega))) (show w.heap.size ≤ _ by omega) (show _ ≤ (((((w6.setCell ⟨w.heap.size + 1, 0, none⟩ (.int .i64 RV.ro)).setCell ⟨w.heap.size + 1, 1, none⟩ (.slice E0 nl f0)).setCell ⟨w.heap.size + 1, 2, none⟩ (.slice E1 nm f1)).setCell ⟨w.heap.size + 1, 3, none⟩ (.slice E2 nt f2)).setCell ⟨w.heap.size + 1, 4, none⟩ (.slice E3 nb f3)).heap.size from hwi.size))
  have HBF := hid (HB6.out.then_wi hwi (by omega))
  clear hwi hst hRR6
  go_wp2
  refine bodyPost_ret (results_cell_row rfl _ _ (w.heap.size + 1) 29 #[.int .i64 RV.ro, .slice E0 nl f0, .slice E1 nm f1, .slice E2 nt f2, .slice E3 nb f3] (0, 0) _ rfl HFF.out Try.underlying29 rfl (by kernel_rfl)) rfl ?_
  exact ⟨_, rfl, HST.out, HBF.out⟩
end Go.Proofs.Ytaidbdogolhnjaa.U
set_option linter.unusedVariables false
set_option linter.unusedSimpArgs false
namespace Go.Proofs.Ytaidbdogolhnjaa.U
open Go.RowKit Go.Lib Go.Proofs.YtaidbdogolhnjaaW.PrintWords

open Go.Proofs.YtaidbdogolhnjaaW.PrintLast Go.Proofs.YtaidbdogolhnjaaW.PrintMore
attribute [local go_sem] go_max2
def grTo (ms ts : List Int) : Nat → Int
  | 0 => 0
  | k + 1 => if rd ms (k : Int) > 0 then bigMax (grTo ms ts k) (Int.tdiv (rd ts (k : Int) + rd ms (k : Int) - 1) (rd ms (k : Int))) else grTo ms ts k
def lsTo (ms ts : List Int) : Nat → Int
  | 0 => -1
  | k + 1 => if rd ms (k : Int) > 0 ∧ (lsTo ms ts k < 0 ∨ Int.tdiv (rd ts (k : Int)) (rd ms (k : Int)) < lsTo ms ts k) then Int.tdiv (rd ts (k : Int)) (rd ms (k : Int)) else lsTo ms ts k
/-- masses and tracers as in a state -/
def MTc (ms ts : List Int) (n : Nat) : Prop := ∀ i : Nat, i < n → (0 ≤ rd ms (i : Int) ∧ rd ms (i : Int) ≤ 10000000) ∧ (0 ≤ rd ts (i : Int) ∧ rd ts (i : Int) ≤ 1000 * rd ms (i : Int))
theorem cdiv {t m : Int} (ht : 0 ≤ t) (hm : 0 < m) : t ≤ Int.tdiv (t + m - 1) m * m ∧ 0 ≤ Int.tdiv (t + m - 1) m ∧ ∀ G, t ≤ G * m → Int.tdiv (t + m - 1) m ≤ G := by
  rw [Int.tdiv_eq_ediv_of_nonneg (by omega)]
  refine ⟨?_, Int.ediv_nonneg (by omega) (by omega), fun G h => ?_⟩
  · have h := Int.lt_ediv_add_one_mul_self (t + m - 1) hm
    rw [Int.add_mul, Int.one_mul] at h
    omega
  · have h2 : (t + m - 1) / m < G + 1 := Int.ediv_lt_of_lt_mul hm (by rw [Int.add_mul, Int.one_mul]; omega)
    omega
theorem fdiv {t m : Int} (ht : 0 ≤ t) (hm : 0 < m) : Int.tdiv t m * m ≤ t ∧ 0 ≤ Int.tdiv t m ∧ ∀ L, L * m ≤ t → L ≤ Int.tdiv t m := by
  rw [Int.tdiv_eq_ediv_of_nonneg ht]
  exact ⟨Int.ediv_mul_le _ (by omega), Int.ediv_nonneg ht (by omega), fun L h => Int.le_ediv_of_mul_le hm h⟩
theorem grTo_ok {ms ts : List Int} : ∀ (n : Nat), MTc ms ts n → 0 ≤ grTo ms ts n ∧ (∀ i : Nat, i < n → rd ts (i : Int) ≤ grTo ms ts n * rd ms (i : Int)) ∧ ∀ G, 0 ≤ G → (∀ i : Nat, i < n → rd ts (i : Int) ≤ G * rd ms (i : Int)) → grTo ms ts n ≤ G
  | 0, _ => ⟨by simp [grTo], fun i hi => absurd hi (by omega), fun G hG _ => hG⟩
  | k + 1, h => by
    obtain ⟨a, b, c⟩ := grTo_ok k (fun i hi => h i (by omega))
    obtain ⟨⟨m0, _⟩, t0, t1⟩ := h k (by omega)
    rw [grTo]
    split
    · rename_i hm
      obtain ⟨d, e, f⟩ := cdiv t0 hm
      rw [bigMax_max]
      refine ⟨by omega, fun i hi => ?_, fun G hG hh => ?_⟩
      · rcases Nat.lt_or_ge i k with h1 | h1
        · exact Int.le_trans (b i h1) (Int.mul_le_mul_of_nonneg_right (by omega) (h i (by omega)).1.1)
        · obtain rfl : i = k := by omega
          exact Int.le_trans d (Int.mul_le_mul_of_nonneg_right (by omega) m0)
      · have := c G hG (fun i hi => hh i (by omega))
        have := f G (hh k (by omega))
        omega
    · rename_i hm
      refine ⟨a, fun i hi => ?_, fun G hG hh => c G hG (fun i hi => hh i (by omega))⟩
      rcases Nat.lt_or_ge i k with h1 | h1
      · exact b i h1
      · obtain rfl : i = k := by omega
        have e : rd ms (i : Int) = 0 := by omega
        rw [e] at t1 ⊢
        omega
theorem lsTo_ok {ms ts : List Int} : ∀ (n : Nat), MTc ms ts n → ((lsTo ms ts n = -1 ∧ ∀ i : Nat, i < n → rd ms (i : Int) = 0) ∨ (0 ≤ lsTo ms ts n ∧ ∃ i : Nat, i < n ∧ 0 < rd ms (i : Int))) ∧ (∀ i : Nat, i < n → lsTo ms ts n * rd ms (i : Int) ≤ rd ts (i : Int)) ∧ ∀ L, (∀ i : Nat, i < n → L * rd ms (i : Int) ≤ rd ts (i : Int)) → lsTo ms ts n = -1 ∨ L ≤ lsTo ms ts n
  | 0, _ => ⟨.inl ⟨rfl, fun i hi => absurd hi (by omega)⟩, fun i hi => absurd hi (by omega), fun L _ => .inl rfl⟩
  | k + 1, h => by
    obtain ⟨a, b, c⟩ := lsTo_ok k (fun i hi => h i (by omega))
    obtain ⟨⟨m0, _⟩, t0, t1⟩ := h k (by omega)
    rw [lsTo]
    split
    · rename_i hc
      obtain ⟨hm, hc⟩ := hc
      obtain ⟨d, e, f⟩ := fdiv t0 hm
      refine ⟨.inr ⟨e, k, by omega, hm⟩, fun i hi => ?_, fun L hh => .inr (f L (hh k (by omega)))⟩
      rcases Nat.lt_or_ge i k with h1 | h1
      · rcases a with ⟨_, a2⟩ | ⟨a1, _⟩
        · rw [a2 i h1]
          have := (h i (by omega)).2.1
          omega
        · exact Int.le_trans (Int.mul_le_mul_of_nonneg_right (by omega) (h i (by omega)).1.1) (b i h1)
      · obtain rfl : i = k := by omega
        exact d
    · rename_i hc
      refine ⟨?_, fun i hi => ?_, fun L hh => c L (fun i hi => hh i (by omega))⟩
      · rcases a with ⟨a1, a2⟩ | ⟨a1, j, hj, hj2⟩
        · left
          refine ⟨a1, fun i hi => ?_⟩
          rcases Nat.lt_or_ge i k with h1 | h1
          · exact a2 i h1
          · obtain rfl : i = k := by omega
            rcases Int.lt_or_le 0 (rd ms (i : Int)) with h2 | h2
            · exact absurd ⟨h2, .inl (by omega)⟩ hc
            · omega
        · exact .inr ⟨a1, j, by omega, hj2⟩
      · rcases Nat.lt_or_ge i k with h1 | h1
        · exact b i h1
        · obtain rfl : i = k := by omega
          rcases Int.lt_or_le 0 (rd ms (i : Int)) with h2 | h2
          · have h3 : ¬ (Int.tdiv (rd ts (i : Int)) (rd ms (i : Int)) < lsTo ms ts i) := fun h3 => hc ⟨h2, .inr h3⟩
            exact Int.le_trans (Int.mul_le_mul_of_nonneg_right (by omega) m0) (fdiv t0 h2).1
          · have e : rd ms (i : Int) = 0 := by omega
            rw [e]
            omega
def gshare (s : Sta) : Int := grTo s.ms s.ts s.ms.length
def lshare (s : Sta) : Int := bigMax (lsTo s.ms s.ts s.ms.length) 0
theorem hasMT {s : Sta} (h : staOk s.ro s.lv s.ms s.ts s.bd = true) : s.ms.length = s.lv.length ∧ s.ts.length = s.lv.length ∧ MTc s.ms s.ts s.ms.length := by
  obtain ⟨h1, h2, _, _, h5, _⟩ := hasC_iff.1 (staOk_iff.1 h).2
  exact ⟨h1, h2, fun i hi => h5 i (by omega)⟩
theorem shares_ok {s x : Sta} (h : staOk s.ro s.lv s.ms s.ts s.bd = true) (hx : staOk x.ro x.lv x.ms x.ts x.bd = true) (k : Tk s x) : gshare x ≤ gshare s ∧ lshare s ≤ lshare x := by
  obtain ⟨a1, a2, a3⟩ := hasMT h
  obtain ⟨b1, b2, b3⟩ := hasMT hx
  obtain ⟨g0, g1, _⟩ := grTo_ok s.ms.length a3
  obtain ⟨l0, l1, _⟩ := lsTo_ok s.ms.length a3
  have hw : Wd s (lsTo s.ms s.ts s.ms.length) (grTo s.ms s.ts s.ms.length) := fun i hi => ⟨l1 i (by omega), g1 i (by omega)⟩
  have hwx := k.w _ _ hw
  obtain ⟨_, _, g2⟩ := grTo_ok x.ms.length b3
  obtain ⟨m0, _, l2⟩ := lsTo_ok x.ms.length b3
  refine ⟨g2 _ g0 (fun i hi => (hwx i (by omega)).2), ?_⟩
  have hl := l2 (lsTo s.ms s.ts s.ms.length) (fun i hi => (hwx i (by omega)).1)
  rw [lshare, lshare, bigMax_max, bigMax_max]
  rcases l0 with ⟨e, _⟩ | ⟨e, j, hj, hj2⟩
  · omega
  · rcases m0 with ⟨f, f2⟩ | ⟨f, _⟩
    · exfalso
      have hs := (rd_le_sumY s.ms (fun i hi => (a3 i hi).1.1)).2 j hj
      have hz : ∀ (l : List Int), (∀ i : Nat, i < l.length → rd l (i : Int) = 0) → l.sum = 0 := by
        intro l
        induction l with
        | nil => intro _; rfl
        | cons y l ih =>
          intro hh
          have h0 := hh 0 (by simp)
          rw [rd_nat] at h0
          have h1 := ih (fun i hi => by have := hh (i + 1) (by simpa using hi); rw [rd_nat] at this ⊢; simpa using this)
          simp at h0
          rw [List.sum_cons, h0, h1]
          rfl
      have := hz x.ms f2
      have := k.m
      omega
    · omega

set_option maxHeartbeats 4000000 in
theorem spec_TotalMass (x : Value) (s : Sta) (w : World) (hx : StR w x s) (hok : staOk s.ro s.lv s.ms s.ts s.bd = true) :
    Calls Try.prog 14 #[x] w fun e w' => e = .returned (.int .i64 s.ms.sum) ∧ Bw w w' := by
  have HSU := hid (show SumOk s.ms from by
    obtain ⟨h1, h2, h3⟩ := hasMT hok
    have hn := (StF.of hok).n
    refine sumOk_of _ 10000000000 (by omega) (fun y hy => ?_) (by omega)
    obtain ⟨i, hi, rfl⟩ := List.getElem_of_mem hy
    have := h3 i (by omega)
    rw [rd_nat, rd_nat, List.getD_eq_getElem?_getD, List.getD_eq_getElem?_getD, List.getElem?_eq_getElem (by omega : i < s.ms.length), List.getElem?_eq_getElem (by omega : i < s.ts.length), Option.getD_some, Option.getD_some] at this
    omega)
  have HOK := hid hok
  obtain ⟨A0, c0, A1, c1, A2, c2, A3, c3, rfl, r0, r1, r2, r3⟩ := hx
  have b0 := Bw.box1 w (.cells #[.int .i64 s.ro, .slice A0 s.lv.length c0, .slice A1 s.ms.length c1, .slice A2 s.ts.length c2, .slice A3 s.bd.length c3] 29)
  have g0 := box_cell (Bw.refl (w.alloc (.cells #[.int .i64 s.ro, .slice A0 s.lv.length c0, .slice A1 s.ms.length c1, .slice A2 s.ts.length c2, .slice A3 s.bd.length c3] 29))) 0
  have g1 := box_cell (Bw.refl (w.alloc (.cells #[.int .i64 s.ro, .slice A0 s.lv.length c0, .slice A1 s.ms.length c1, .slice A2 s.ts.length c2, .slice A3 s.bd.length c3] 29))) 1
  have g2 := box_cell (Bw.refl (w.alloc (.cells #[.int .i64 s.ro, .slice A0 s.lv.length c0, .slice A1 s.ms.length c1, .slice A2 s.ts.length c2, .slice A3 s.bd.length c3] 29))) 2
  have g3 := box_cell (Bw.refl (w.alloc (.cells #[.int .i64 s.ro, .slice A0 s.lv.length c0, .slice A1 s.ms.length c1, .slice A2 s.ts.length c2, .slice A3 s.bd.length c3] 29))) 3
  have g4 := box_cell (Bw.refl (w.alloc (.cells #[.int .i64 s.ro, .slice A0 s.lv.length c0, .slice A1 s.ms.length c1, .slice A2 s.ts.length c2, .slice A3 s.bd.length c3] 29))) 4
  simp only [List.getElem?_toArray, List.getElem?_cons_zero, List.getElem?_cons_succ] at g0 g1 g2 g3 g4
  clear hok
  go_enter Try.func14, Try.ntmps14
  go_wp2_with fail
  refine (spec_StateOk s.ro A0 _ c0 s.lv A1 _ c1 s.ms A2 _ c2 s.ts A3 _ c3 s.bd _ (r0.to b0) (r1.to b0) (r2.to b0) (r3.to b0)).mono ?_
  rintro e w2 ⟨rfl, b2⟩
  rw [HOK.out]
  replace g0 := pw_cell_below b2.out g0
  replace g1 := pw_cell_below b2.out g1
  replace g2 := pw_cell_below b2.out g2
  replace g3 := pw_cell_below b2.out g3
  replace g4 := pw_cell_below b2.out g4
  have HB := hid (b0.trans b2)
  have HR := hid (r1.to HB.out)
  clear b0 b2
  go_wp2_with fail
  refine (l07Sum _ _ _ s.ms _ HR.out HSU.out).mono ?_
  rintro e w3 ⟨rfl, rfl⟩
  go_wp2
  go_ret
  exact ⟨rfl, HB.out⟩

set_option maxHeartbeats 4000000 in
theorem spec_TotalTracer (x : Value) (s : Sta) (w : World) (hx : StR w x s) (hok : staOk s.ro s.lv s.ms s.ts s.bd = true) :
    Calls Try.prog 15 #[x] w fun e w' => e = .returned (.int .i64 s.ts.sum) ∧ Bw w w' := by
  have HSU := hid (show SumOk s.ts from by
    obtain ⟨h1, h2, h3⟩ := hasMT hok
    have hn := (StF.of hok).n
    refine sumOk_of _ 10000000000 (by omega) (fun y hy => ?_) (by omega)
    obtain ⟨i, hi, rfl⟩ := List.getElem_of_mem hy
    have := h3 i (by omega)
    rw [rd_nat, rd_nat, List.getD_eq_getElem?_getD, List.getD_eq_getElem?_getD, List.getElem?_eq_getElem (by omega : i < s.ms.length), List.getElem?_eq_getElem (by omega : i < s.ts.length), Option.getD_some, Option.getD_some] at this
    omega)
  have HOK := hid hok
  obtain ⟨A0, c0, A1, c1, A2, c2, A3, c3, rfl, r0, r1, r2, r3⟩ := hx
  have b0 := Bw.box1 w (.cells #[.int .i64 s.ro, .slice A0 s.lv.length c0, .slice A1 s.ms.length c1, .slice A2 s.ts.length c2, .slice A3 s.bd.length c3] 29)
  have g0 := box_cell (Bw.refl (w.alloc (.cells #[.int .i64 s.ro, .slice A0 s.lv.length c0, .slice A1 s.ms.length c1, .slice A2 s.ts.length c2, .slice A3 s.bd.length c3] 29))) 0
  have g1 := box_cell (Bw.refl (w.alloc (.cells #[.int .i64 s.ro, .slice A0 s.lv.length c0, .slice A1 s.ms.length c1, .slice A2 s.ts.length c2, .slice A3 s.bd.length c3] 29))) 1
  have g2 := box_cell (Bw.refl (w.alloc (.cells #[.int .i64 s.ro, .slice A0 s.lv.length c0, .slice A1 s.ms.length c1, .slice A2 s.ts.length c2, .slice A3 s.bd.length c3] 29))) 2
  have g3 := box_cell (Bw.refl (w.alloc (.cells #[.int .i64 s.ro, .slice A0 s.lv.length c0, .slice A1 s.ms.length c1, .slice A2 s.ts.length c2, .slice A3 s.bd.length c3] 29))) 3
  have g4 := box_cell (Bw.refl (w.alloc (.cells #[.int .i64 s.ro, .slice A0 s.lv.length c0, .slice A1 s.ms.length c1, .slice A2 s.ts.length c2, .slice A3 s.bd.length c3] 29))) 4
  simp only [List.getElem?_toArray, List.getElem?_cons_zero, List.getElem?_cons_succ] at g0 g1 g2 g3 g4
  clear hok
  go_enter Try.func15, Try.ntmps15
  go_wp2_with fail
  refine (spec_StateOk s.ro A0 _ c0 s.lv A1 _ c1 s.ms A2 _ c2 s.ts A3 _ c3 s.bd _ (r0.to b0) (r1.to b0) (r2.to b0) (r3.to b0)).mono ?_
  rintro e w2 ⟨rfl, b2⟩
  rw [HOK.out]
  replace g0 := pw_cell_below b2.out g0
  replace g1 := pw_cell_below b2.out g1
  replace g2 := pw_cell_below b2.out g2
  replace g3 := pw_cell_below b2.out g3
  replace g4 := pw_cell_below b2.out g4
  have HB := hid (b0.trans b2)
  have HR := hid (r2.to HB.out)
  clear b0 b2
  go_wp2_with fail
  refine (l07Sum _ _ _ s.ts _ HR.out HSU.out).mono ?_
  rintro e w3 ⟨rfl, rfl⟩
  go_wp2
  go_ret
  exact ⟨rfl, HB.out⟩

set_option maxHeartbeats 4000000 in
set_option maxRecDepth 100000 in
theorem spec_GreatestShare (x : Value) (s : Sta) (w : World) (hx : StR w x s) (hok : staOk s.ro s.lv s.ms s.ts s.bd = true) :
    Calls Try.prog 16 #[x] w fun e w' => e = .returned (.int .i64 (gshare s)) ∧ Bw w w' := by
  obtain ⟨RV, hRV⟩ : ∃ r, gshare s = r := ⟨_, rfl⟩
  rw [hRV]
  have HRV := hid hRV
  have HOK := hid hok
  obtain ⟨e1_, e2_, hmt⟩ := hasMT hok
  have hn := (StF.of hok).n
  obtain ⟨A0, c0, A1, c1, A2, c2, A3, c3, rfl, r0, r1, r2, r3⟩ := hx
  rw [show s.ts.length = s.ms.length by omega] at r2 ⊢
  have HR0 := hid r0
  have HR1 := hid r1
  have HR2 := hid r2
  have HR3 := hid r3
  have HMT := hid hmt
  have HN := hid (show s.ms.length ≤ 1000 by omega)
  have HTE := hid (show s.ts.length = s.ms.length by omega)
  have b0 := Bw.box1 w (.cells #[.int .i64 s.ro, .slice A0 s.lv.length c0, .slice A1 s.ms.length c1, .slice A2 s.ms.length c2, .slice A3 s.bd.length c3] 29)
  have g0 := box_cell (Bw.refl (w.alloc (.cells #[.int .i64 s.ro, .slice A0 s.lv.length c0, .slice A1 s.ms.length c1, .slice A2 s.ms.length c2, .slice A3 s.bd.length c3] 29))) 0
  have g1 := box_cell (Bw.refl (w.alloc (.cells #[.int .i64 s.ro, .slice A0 s.lv.length c0, .slice A1 s.ms.length c1, .slice A2 s.ms.length c2, .slice A3 s.bd.length c3] 29))) 1
  have g2 := box_cell (Bw.refl (w.alloc (.cells #[.int .i64 s.ro, .slice A0 s.lv.length c0, .slice A1 s.ms.length c1, .slice A2 s.ms.length c2, .slice A3 s.bd.length c3] 29))) 2
  have g3 := box_cell (Bw.refl (w.alloc (.cells #[.int .i64 s.ro, .slice A0 s.lv.length c0, .slice A1 s.ms.length c1, .slice A2 s.ms.length c2, .slice A3 s.bd.length c3] 29))) 3
  have g4 := box_cell (Bw.refl (w.alloc (.cells #[.int .i64 s.ro, .slice A0 s.lv.length c0, .slice A1 s.ms.length c1, .slice A2 s.ms.length c2, .slice A3 s.bd.length c3] 29))) 4
  simp only [List.getElem?_toArray, List.getElem?_cons_zero, List.getElem?_cons_succ] at g0 g1 g2 g3 g4
  have HB0 := hid b0
  clear hok hRV b0 hn e1_ e2_ hmt r0 r1 r2 r3
  go_enter Try.func16, Try.ntmps16
  go_wp2
  generalize (w.alloc (.cells #[.int .i64 s.ro, .slice A0 s.lv.length c0, .slice A1 s.ms.length c1, .slice A2 s.ms.length c2, .slice A3 s.bd.length c3] 29)) = w1 at *
  have K_g0 := hid g0
  have K_g1 := hid g1
  have K_g2 := hid g2
  have K_g3 := hid g3
  have K_g4 := hid g4
  clear g0 g1 g2 g3 g4
  go_loopw [3, 4] (fun v3 v4 wr => ∃ k : Nat, k ≤ s.ms.length ∧ v4 = .int .i64 k ∧ v3 = .int .i64 (grTo s.ms s.ts k) ∧ Hid (Bw w1 wr)) (fun _ v4 _ => s.ms.length - (Go.RowKit.intOf v4).toNat)
  case atStart => exact ⟨0, by omega, rfl, rfl, hid (Bw.refl _)⟩
  case round =>
    obtain ⟨k, hk, rfl, rfl, hW⟩ := hrel
    have HB := hid (HB0.out.trans hW.out)
    have g0 := pw_cell_below hW.out.out K_g0.out
    have g1 := pw_cell_below hW.out.out K_g1.out
    have g2 := pw_cell_below hW.out.out K_g2.out
    have g3 := pw_cell_below hW.out.out K_g3.out
    have g4 := pw_cell_below hW.out.out K_g4.out
    by_cases hlt : k < s.ms.length
    · have t1 : decide ((k : Int) < (s.ms.length : Int)) = true := decide_eq_true (by omega)
      have HLT := hid hlt
      go_wp2_with fail
      refine (spec_StateOk s.ro A0 _ c0 s.lv A1 _ c1 s.ms A2 _ c2 s.ts A3 _ c3 s.bd _ (HR0.out.to HB.out) (HR1.out.to HB.out) (HR2.out.to HB.out) (HR3.out.to HB.out)).mono ?_
      rintro e w2 ⟨rfl, b2⟩
      rw [HOK.out]
      replace g0 := pw_cell_below b2.out g0
      replace g1 := pw_cell_below b2.out g1
      replace g2 := pw_cell_below b2.out g2
      replace g3 := pw_cell_below b2.out g3
      replace g4 := pw_cell_below b2.out g4
      have hW2 := hid (hW.out.trans b2)
      have hB2 := hid (HB.out.trans b2)
      obtain ⟨ad, rfl, xm⟩ := (HR1.out.to hB2.out).nat k HLT.out
      obtain ⟨ae, rfl, xt⟩ := (HR2.out.to hB2.out).nat k HLT.out
      have hmt := HMT.out k HLT.out
      have HRG := hid (show 0 ≤ grTo s.ms s.ts k ∧ grTo s.ms s.ts k ≤ 1000 from ⟨(grTo_ok k (fun i hi => HMT.out i (by have := HLT.out; omega))).1, (grTo_ok k (fun i hi => HMT.out i (by have := HLT.out; omega))).2.2 1000 (by omega) (fun i hi => (HMT.out i (by have := HLT.out; omega)).2.2)⟩)
      have e1 : IntKind.i64.wrap ((k : Int) + 1) = (k : Int) + 1 := i64w (by have := HN.out; omega) (by have := HN.out; omega)
      have hkk := hid (show k + 1 ≤ s.ms.length ∧ s.ms.length - (k + 1) < s.ms.length - k by have := HLT.out; clear e1; omega)
      have i4 : (0 : Int) ≤ (k : Int) := by clear e1; omega
      have i5 : (k : Int) < (s.ms.length : Int) := by have := HLT.out; clear e1; omega
      have HST := hid (show grTo s.ms s.ts (k + 1) = if rd s.ms (k : Int) > 0 then bigMax (grTo s.ms s.ts k) (Int.tdiv (rd s.ts (k : Int) + rd s.ms (k : Int) - 1) (rd s.ms (k : Int))) else grTo s.ms s.ts k by rw [grTo])
      obtain ⟨cur, hcur⟩ : ∃ c, grTo s.ms s.ts k = c := ⟨_, rfl⟩
      obtain ⟨m, hm⟩ : ∃ m, rd s.ms (k : Int) = m := ⟨_, rfl⟩
      obtain ⟨t, ht⟩ : ∃ t, rd s.ts (k : Int) = t := ⟨_, rfl⟩
      rw [hcur]
      rw [hcur, hm, ht] at HST
      try rw [hcur] at HRG
      rw [hm] at xm
      rw [ht] at xt
      rw [hm, ht] at hmt
      clear b2 hW HB hcur hm ht hlt hB2
      by_cases hp : m > 0
      · have u1 : decide (m > 0) = true := decide_eq_true hp
        have u2 : decide (0 < m) = true := decide_eq_true hp
        have HF := hid (show grTo s.ms s.ts (k + 1) = bigMax cur (Int.tdiv (t + m - 1) m) by rw [HST.out, if_pos hp])
        have a1 : IntKind.i64.wrap (t + m) = t + m := i64w (by clear e1; omega) (by clear e1; omega)
        have a2 : IntKind.i64.wrap (t + m - 1) = t + m - 1 := i64w (by clear e1 a1; omega) (by clear e1 a1; omega)
        have hq := cdiv hmt.2.1 hp
        have hq2 := hq.2.2 1000 hmt.2.2
        have hz : (m == 0) = false := by simp; clear e1 a1 a2; omega
        obtain ⟨Z, hZ⟩ : ∃ Z, Int.tdiv (t + m - 1) m = Z := ⟨_, rfl⟩
        rw [hZ] at hq hq2 HF
        have a3 : IntKind.i64.wrap Z = Z := i64w (by clear e1 a1 a2; omega) (by clear e1 a1 a2; omega)
        have a4 : IntKind.i64.wrap (Int.tdiv (t + m - 1) m) = Z := by rw [hZ]; exact a3
        clear hmt hq hq2
        go_upto_region 6 with fail
        go_quiet (fail)
        have bq : Bw w2 (w2.drewN nq) := Bw.drawn ⟨⟨nq, rfl⟩⟩
        have hW3 := hid (hW2.out.trans bq)
        clear bq
        go_wp2
        go_roundw
        case rel => exact ⟨k + 1, hkk.out.1, by go_num, by rw [HF.out], hW3⟩
        case measure => have hz := hkk.out; clear e1 a1 a2 a3 a4; simp [Go.RowKit.intOf]; omega
      · have u1 : decide (m > 0) = false := decide_eq_false hp
        have u2 : decide (0 < m) = false := decide_eq_false hp
        have HF := hid (show grTo s.ms s.ts (k + 1) = cur by rw [HST.out, if_neg hp])
        clear hmt
        go_wp2
        go_roundw
        case rel => exact ⟨k + 1, hkk.out.1, by go_num, by rw [HF.out], hW2⟩
        case measure => have hz := hkk.out; clear e1; simp [Go.RowKit.intOf]; omega
    · obtain rfl : k = s.ms.length := by omega
      have t1 : decide ((s.ms.length : Int) < (s.ms.length : Int)) = false := decide_eq_false (by omega)
      go_wp2
      go_ret
      exact ⟨by rw [← HRV.out]; rfl, HB.out⟩

set_option maxHeartbeats 4000000 in
set_option maxRecDepth 100000 in
theorem spec_LeastShare (x : Value) (s : Sta) (w : World) (hx : StR w x s) (hok : staOk s.ro s.lv s.ms s.ts s.bd = true) :
    Calls Try.prog 17 #[x] w fun e w' => e = .returned (.int .i64 (lshare s)) ∧ Bw w w' := by
  obtain ⟨RV, hRV⟩ : ∃ r, lshare s = r := ⟨_, rfl⟩
  rw [hRV]
  have HRV := hid hRV
  have HOK := hid hok
  obtain ⟨e1_, e2_, hmt⟩ := hasMT hok
  have hn := (StF.of hok).n
  obtain ⟨A0, c0, A1, c1, A2, c2, A3, c3, rfl, r0, r1, r2, r3⟩ := hx
  rw [show s.ts.length = s.ms.length by omega] at r2 ⊢
  have HR0 := hid r0
  have HR1 := hid r1
  have HR2 := hid r2
  have HR3 := hid r3
  have HMT := hid hmt
  have HN := hid (show s.ms.length ≤ 1000 by omega)
  have HTE := hid (show s.ts.length = s.ms.length by omega)
  have b0 := Bw.box1 w (.cells #[.int .i64 s.ro, .slice A0 s.lv.length c0, .slice A1 s.ms.length c1, .slice A2 s.ms.length c2, .slice A3 s.bd.length c3] 29)
  have g0 := box_cell (Bw.refl (w.alloc (.cells #[.int .i64 s.ro, .slice A0 s.lv.length c0, .slice A1 s.ms.length c1, .slice A2 s.ms.length c2, .slice A3 s.bd.length c3] 29))) 0
  have g1 := box_cell (Bw.refl (w.alloc (.cells #[.int .i64 s.ro, .slice A0 s.lv.length c0, .slice A1 s.ms.length c1, .slice A2 s.ms.length c2, .slice A3 s.bd.length c3] 29))) 1
  have g2 := box_cell (Bw.refl (w.alloc (.cells #[.int .i64 s.ro, .slice A0 s.lv.length c0, .slice A1 s.ms.length c1, .slice A2 s.ms.length c2, .slice A3 s.bd.length c3] 29))) 2
  have g3 := box_cell (Bw.refl (w.alloc (.cells #[.int .i64 s.ro, .slice A0 s.lv.length c0, .slice A1 s.ms.length c1, .slice A2 s.ms.length c2, .slice A3 s.bd.length c3] 29))) 3
  have g4 := box_cell (Bw.refl (w.alloc (.cells #[.int .i64 s.ro, .slice A0 s.lv.length c0, .slice A1 s.ms.length c1, .slice A2 s.ms.length c2, .slice A3 s.bd.length c3] 29))) 4
  simp only [List.getElem?_toArray, List.getElem?_cons_zero, List.getElem?_cons_succ] at g0 g1 g2 g3 g4
  have HB0 := hid b0
  clear hok hRV b0 hn e1_ e2_ hmt r0 r1 r2 r3
  go_enter Try.func17, Try.ntmps17
  go_wp2
  generalize (w.alloc (.cells #[.int .i64 s.ro, .slice A0 s.lv.length c0, .slice A1 s.ms.length c1, .slice A2 s.ms.length c2, .slice A3 s.bd.length c3] 29)) = w1 at *
  have K_g0 := hid g0
  have K_g1 := hid g1
  have K_g2 := hid g2
  have K_g3 := hid g3
  have K_g4 := hid g4
  clear g0 g1 g2 g3 g4
  go_loopw [3, 4] (fun v3 v4 wr => ∃ k : Nat, k ≤ s.ms.length ∧ v4 = .int .i64 k ∧ v3 = .int .i64 (lsTo s.ms s.ts k) ∧ Hid (Bw w1 wr)) (fun _ v4 _ => s.ms.length - (Go.RowKit.intOf v4).toNat)
  case atStart => exact ⟨0, by omega, rfl, rfl, hid (Bw.refl _)⟩
  case round =>
    obtain ⟨k, hk, rfl, rfl, hW⟩ := hrel
    have HB := hid (HB0.out.trans hW.out)
    have g0 := pw_cell_below hW.out.out K_g0.out
    have g1 := pw_cell_below hW.out.out K_g1.out
    have g2 := pw_cell_below hW.out.out K_g2.out
    have g3 := pw_cell_below hW.out.out K_g3.out
    have g4 := pw_cell_below hW.out.out K_g4.out
    by_cases hlt : k < s.ms.length
    · have t1 : decide ((k : Int) < (s.ms.length : Int)) = true := decide_eq_true (by omega)
      have HLT := hid hlt
      go_wp2_with fail
      refine (spec_StateOk s.ro A0 _ c0 s.lv A1 _ c1 s.ms A2 _ c2 s.ts A3 _ c3 s.bd _ (HR0.out.to HB.out) (HR1.out.to HB.out) (HR2.out.to HB.out) (HR3.out.to HB.out)).mono ?_
      rintro e w2 ⟨rfl, b2⟩
      rw [HOK.out]
      replace g0 := pw_cell_below b2.out g0
      replace g1 := pw_cell_below b2.out g1
      replace g2 := pw_cell_below b2.out g2
      replace g3 := pw_cell_below b2.out g3
      replace g4 := pw_cell_below b2.out g4
      have hW2 := hid (hW.out.trans b2)
      have hB2 := hid (HB.out.trans b2)
      obtain ⟨ad, rfl, xm⟩ := (HR1.out.to hB2.out).nat k HLT.out
      obtain ⟨ae, rfl, xt⟩ := (HR2.out.to hB2.out).nat k HLT.out
      have hmt := HMT.out k HLT.out
      have HRG := hid (trivial : True)
      have e1 : IntKind.i64.wrap ((k : Int) + 1) = (k : Int) + 1 := i64w (by have := HN.out; omega) (by have := HN.out; omega)
      have hkk := hid (show k + 1 ≤ s.ms.length ∧ s.ms.length - (k + 1) < s.ms.length - k by have := HLT.out; clear e1; omega)
      have i4 : (0 : Int) ≤ (k : Int) := by clear e1; omega
      have i5 : (k : Int) < (s.ms.length : Int) := by have := HLT.out; clear e1; omega
      have HST := hid (show lsTo s.ms s.ts (k + 1) = if rd s.ms (k : Int) > 0 ∧ (lsTo s.ms s.ts k < 0 ∨ Int.tdiv (rd s.ts (k : Int)) (rd s.ms (k : Int)) < lsTo s.ms s.ts k) then Int.tdiv (rd s.ts (k : Int)) (rd s.ms (k : Int)) else lsTo s.ms s.ts k by rw [lsTo])
      obtain ⟨cur, hcur⟩ : ∃ c, lsTo s.ms s.ts k = c := ⟨_, rfl⟩
      obtain ⟨m, hm⟩ : ∃ m, rd s.ms (k : Int) = m := ⟨_, rfl⟩
      obtain ⟨t, ht⟩ : ∃ t, rd s.ts (k : Int) = t := ⟨_, rfl⟩
      rw [hcur]
      rw [hcur, hm, ht] at HST
      try rw [hcur] at HRG
      rw [hm] at xm
      rw [ht] at xt
      rw [hm, ht] at hmt
      clear b2 hW HB hcur hm ht hlt hB2
      by_cases hp : m > 0
      · have u1 : decide (m > 0) = true := decide_eq_true hp
        have u2 : decide (0 < m) = true := decide_eq_true hp
        have hq := fdiv hmt.2.1 hp
        have hq2 : Int.tdiv t m ≤ 1000 := by
          have h1 : Int.tdiv t m * m ≤ 1000 * m := Int.le_trans hq.1 hmt.2.2
          exact Int.le_of_mul_le_mul_right h1 hp
        have hz : (m == 0) = false := by simp; clear e1; omega
        have hz2 : ¬ m = 0 := by clear e1; omega
        have HP := hid hp
        obtain ⟨Z, hZ⟩ : ∃ Z, Int.tdiv t m = Z := ⟨_, rfl⟩
        rw [hZ] at hq hq2 HST
        have a3 : IntKind.i64.wrap Z = Z := i64w (by clear e1; omega) (by clear e1; omega)
        have a4 : IntKind.i64.wrap (Int.tdiv t m) = Z := by rw [hZ]; exact a3
        clear hmt hq hq2 hp
        by_cases hc : cur < 0
        · have v1 : decide (cur < 0) = true := decide_eq_true hc
          have HF := hid (show lsTo s.ms s.ts (k + 1) = Z by rw [HST.out, if_pos ⟨HP.out, .inl hc⟩])
          go_upto_region 5 with fail
          go_quiet (fail)
          have bq : Bw w2 (w2.drewN nq) := Bw.drawn ⟨⟨nq, rfl⟩⟩
          have hW3 := hid (hW2.out.trans bq)
          replace xm := pw_cell_below bq.out xm
          replace xt := pw_cell_below bq.out xt
          replace g0 := pw_cell_below bq.out g0
          replace g1 := pw_cell_below bq.out g1
          replace g2 := pw_cell_below bq.out g2
          replace g3 := pw_cell_below bq.out g3
          replace g4 := pw_cell_below bq.out g4
          clear bq
          generalize w2.drewN nq = w3 at *
          go_upto_region 6 with fail
          go_quiet (fail)
          have bq : Bw w3 (w3.drewN nq) := Bw.drawn ⟨⟨nq, rfl⟩⟩
          have hW4 := hid (hW3.out.trans bq)
          clear bq
          go_wp2
          go_roundw
          case rel => exact ⟨k + 1, hkk.out.1, by go_num, by rw [HF.out], hW4⟩
          case measure => have hz := hkk.out; clear e1 a3 a4; simp [Go.RowKit.intOf]; omega
        · have v1 : decide (cur < 0) = false := decide_eq_false hc
          by_cases hd : Z < cur
          · have v2 : decide (Z < cur) = true := decide_eq_true hd
            have v3 : decide (Int.tdiv t m < cur) = true := by rw [hZ]; exact v2
            have HF := hid (show lsTo s.ms s.ts (k + 1) = Z by rw [HST.out, if_pos ⟨HP.out, .inr hd⟩])
            go_upto_region 5 with fail
            go_quiet (fail)
            have bq : Bw w2 (w2.drewN nq) := Bw.drawn ⟨⟨nq, rfl⟩⟩
            have hW3 := hid (hW2.out.trans bq)
            replace xm := pw_cell_below bq.out xm
            replace xt := pw_cell_below bq.out xt
            replace g0 := pw_cell_below bq.out g0
            replace g1 := pw_cell_below bq.out g1
            replace g2 := pw_cell_below bq.out g2
            replace g3 := pw_cell_below bq.out g3
            replace g4 := pw_cell_below bq.out g4
            clear bq
            generalize w2.drewN nq = w3 at *
            go_upto_region 6 with fail
            go_quiet (fail)
            have bq : Bw w3 (w3.drewN nq) := Bw.drawn ⟨⟨nq, rfl⟩⟩
            have hW4 := hid (hW3.out.trans bq)
            clear bq
            go_wp2
            go_roundw
            case rel => exact ⟨k + 1, hkk.out.1, by go_num, by rw [HF.out], hW4⟩
            case measure => have hz := hkk.out; clear e1 a3 a4; simp [Go.RowKit.intOf]; omega
          · have v2 : decide (Z < cur) = false := decide_eq_false hd
            have v3 : decide (Int.tdiv t m < cur) = false := by rw [hZ]; exact v2
            have HF := hid (show lsTo s.ms s.ts (k + 1) = cur by rw [HST.out, if_neg (fun h => h.2.elim hc hd)])
            go_upto_region 5 with fail
            go_quiet (fail)
            have bq : Bw w2 (w2.drewN nq) := Bw.drawn ⟨⟨nq, rfl⟩⟩
            have hW3 := hid (hW2.out.trans bq)
            clear bq
            go_wp2
            go_roundw
            case rel => exact ⟨k + 1, hkk.out.1, by go_num, by rw [HF.out], hW3⟩
            case measure => have hz := hkk.out; clear e1; (try clear a3 a4); simp [Go.RowKit.intOf]; omega
      · have u1 : decide (m > 0) = false := decide_eq_false hp
        have u2 : decide (0 < m) = false := decide_eq_false hp
        have HF := hid (show lsTo s.ms s.ts (k + 1) = cur by rw [HST.out, if_neg (fun h => hp h.1)])
        clear hmt
        go_upto_region 5 with fail
        go_quiet (fail)
        have bq : Bw w2 (w2.drewN nq) := Bw.drawn ⟨⟨nq, rfl⟩⟩
        have hW3 := hid (hW2.out.trans bq)
        clear bq
        go_wp2
        go_roundw
        case rel => exact ⟨k + 1, hkk.out.1, by go_num, by rw [HF.out], hW3⟩
        case measure => have hz := hkk.out; clear e1; (try clear a3 a4); simp [Go.RowKit.intOf]; omega
    · obtain rfl : k = s.ms.length := by omega
      have t1 : decide ((s.ms.length : Int) < (s.ms.length : Int)) = false := decide_eq_false (by omega)
      go_wp2
      go_ret
      exact ⟨by rw [← HRV.out]; rfl, HB.out⟩
end Go.Proofs.Ytaidbdogolhnjaa.U
