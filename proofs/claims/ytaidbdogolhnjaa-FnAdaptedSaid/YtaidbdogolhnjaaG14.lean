
/- Fluxes between two leaves. -/
import Derived.Test.YtaidbdogolhnjaaG2
import Derived.Test.YtaidbdogolhnjaaG5
import Derived.Test.YtaidbdogolhnjaaG21
import Derived.Test.YtaidbdogolhnjaaG8
import Derived.Test.YtaidbdogolhnjaaG6
import Derived.Test.YtaidbdogolhnjaaWInvWords
set_option linter.unusedVariables false
set_option linter.unusedSimpArgs false
namespace Go.Proofs.Ytaidbdogolhnjaa.U
open Go.RowKit Go.Lib Go.Proofs.YtaidbdogolhnjaaW.PrintWords

attribute [local go_sem] go_max2 go_min2
theorem tdiv_range {a b : Int} (h : -1000000000000000 ≤ a ∧ a ≤ 1000000000000000) (hb : 0 < b) : -1000000000000000 ≤ Int.tdiv a b ∧ Int.tdiv a b ≤ 1000000000000000 := by
  rcases Int.lt_or_le a 0 with h0 | h0
  · have e : Int.tdiv a b = -(Int.tdiv (-a) b) := by rw [Int.neg_tdiv]; omega
    have h1 := Int.tdiv_nonneg (show 0 ≤ -a by omega) (Int.le_of_lt hb)
    have h2 : Int.tdiv (-a) b ≤ -a := by
      rw [Int.tdiv_eq_ediv_of_nonneg (by omega)]
      exact Int.ediv_le_self _ (by omega)
    omega
  · have h1 := Int.tdiv_nonneg h0 (Int.le_of_lt hb)
    have h2 : Int.tdiv a b ≤ a := by
      rw [Int.tdiv_eq_ediv_of_nonneg h0]
      exact Int.ediv_le_self _ h0
    omega
theorem wid_pos {l : Int} (h : 0 ≤ l ∧ l ≤ 4) : 1 ≤ wid l := by
  have : l = 0 ∨ l = 1 ∨ l = 2 ∨ l = 3 ∨ l = 4 := by omega
  rcases this with e | e | e | e | e <;> rw [e] <;> decide
/-- a face of level l is active in tick t -/
def actB (t l : Int) : Bool := inR l 0 4 && (decide (t ≥ 0) && (Int.tmod t (wid l) == 0))
/-- the flux between two leaves: surfaces, masses, levels -/
def pairF (sa sb ma mb la lb : Int) : Int := bigMax (smallMin (Int.tdiv ((sa - sb) * wid (bigMax la lb)) (32 * (wid la + wid lb))) (Int.tdiv ma 4)) (-(Int.tdiv mb 4))
structure FxOk (sa sb ma mb la lb : Int) : Prop where
  la : 0 ≤ la ∧ la ≤ 4
  lb : 0 ≤ lb ∧ lb ≤ 4
  ma : 0 ≤ ma ∧ ma ≤ 1000000000
  mb : 0 ≤ mb ∧ mb ≤ 1000000000
  sa : 0 ≤ sa ∧ sa ≤ 100000000000
  sb : 0 ≤ sb ∧ sb ≤ 100000000000
theorem FxOk.num {sa sb ma mb la lb : Int} (h : FxOk sa sb ma mb la lb) : -10000000000000 ≤ (sa - sb) * wid (bigMax la lb) ∧ (sa - sb) * wid (bigMax la lb) ≤ 10000000000000 := by
  have h1 := wid_range (bigMax la lb)
  have h2 := h.sa
  have h3 := h.sb
  have h4 : (sa - sb) * wid (bigMax la lb) ≤ 100000000000 * wid (bigMax la lb) := Int.mul_le_mul_of_nonneg_right (by omega) h1.1
  have h5 : (-100000000000) * wid (bigMax la lb) ≤ (sa - sb) * wid (bigMax la lb) := Int.mul_le_mul_of_nonneg_right (by omega) h1.1
  omega
theorem pairF_clamp {q lo hi : Int} (h : lo ≤ hi) : smallMin (bigMax q lo) hi = bigMax (smallMin q hi) lo := by
  simp only [smallMin_min, bigMax_max]
  omega
end Go.Proofs.Ytaidbdogolhnjaa.U
set_option linter.unusedVariables false
set_option linter.unusedSimpArgs false
namespace Go.Proofs.Ytaidbdogolhnjaa.U
open Go.RowKit Go.Lib Go.Proofs.YtaidbdogolhnjaaW.PrintWords

open Go.Proofs.YtaidbdogolhnjaaW.PrintLast Go.Proofs.YtaidbdogolhnjaaW.PrintMore
/-- the flux through a state's face -/
def fluxS (s : Sta) (i : Nat) : Int := pairF (surf s i) (surf s (i + 1)) (rd s.ms (i : Int)) (rd s.ms ((i + 1 : Nat) : Int)) (gc s.lv i).l (gc s.lv (i + 1)).l
theorem surf_range {s : Sta} (hs : StF s) {i : Nat} (hi : i < s.lv.length) : 0 ≤ surf s i ∧ surf s i ≤ 200000000 := by
  have a := hs.lv i hi
  have b := hs.bv (gc s.lv i).r.toNat (by omega)
  rw [Int.toNat_of_nonneg a.2.1] at b
  have c := hs.mv i hi
  have d := pow2_range (gc s.lv i).l
  have e : rd s.ms (i : Int) * pow2 (gc s.lv i).l ≤ rd s.ms (i : Int) * 16 := Int.mul_le_mul_of_nonneg_left d.2 c.1
  have f : 0 ≤ rd s.ms (i : Int) * pow2 (gc s.lv i).l := Int.mul_nonneg c.1 (by omega)
  rw [surf]
  omega
theorem flux_ok {s : Sta} (hs : StF s) {i : Nat} (hi : i + 1 < s.lv.length) : FxOk (surf s i) (surf s (i + 1)) (rd s.ms (i : Int)) (rd s.ms ((i + 1 : Nat) : Int)) (gc s.lv i).l (gc s.lv (i + 1)).l := by
  have a := surf_range hs (show i < s.lv.length by omega)
  have b := surf_range hs hi
  have c := hs.mv i (by omega)
  have d := hs.mv (i + 1) hi
  have e := (hs.lv i (by omega)).1
  have f := (hs.lv (i + 1) hi).1
  exact ⟨by omega, by omega, by omega, by omega, by omega, by omega⟩
end Go.Proofs.Ytaidbdogolhnjaa.U
set_option linter.unusedVariables false
set_option linter.unusedSimpArgs false
namespace Go.Proofs.Ytaidbdogolhnjaa.U
open Go.RowKit Go.Lib Go.Proofs.YtaidbdogolhnjaaW.PrintWords

attribute [local go_sem] go_max2 go_min2
/-- a face's level -/
def faceL (l : List Ce) (i : Nat) : Int := bigMax (gc l i).l (gc l (i + 1)).l
/-- the active ones among the first j faces -/
def actTo (l : List Ce) (t : Int) : Nat → List Int
  | 0 => []
  | j + 1 => if actB t (faceL l j) = true then actTo l t j ++ [(j : Int)] else actTo l t j
theorem actTo_len (l : List Ce) (t : Int) : ∀ j, (actTo l t j).length ≤ j
  | 0 => by simp [actTo]
  | j + 1 => by
    have ih := actTo_len l t j
    rw [actTo]
    split
    · rw [List.length_append]
      simp only [List.length_cons, List.length_nil]
      omega
    · omega
end Go.Proofs.Ytaidbdogolhnjaa.U
set_option linter.unusedVariables false
set_option linter.unusedSimpArgs false
namespace Go.Proofs.Ytaidbdogolhnjaa.U
open Go.RowKit Go.Lib Go.Proofs.YtaidbdogolhnjaaW.PrintWords

theorem prod_range {tr r m : Int} (ht : 0 ≤ tr ∧ tr ≤ 1000 * m) (hr : 0 ≤ r ∧ r ≤ m) (hm : 1 ≤ m ∧ m ≤ 10000000) : 0 ≤ tr * r ∧ tr * r ≤ 100000000000000000 := by
  have h1 : tr * r ≤ 10000000000 * r := Int.mul_le_mul_of_nonneg_right (by omega) hr.1
  have h2 : 0 ≤ tr * r := Int.mul_nonneg ht.1 hr.1
  omega
/-- the tracer that leaves to the right, and to the left -/
def outA (tr m r : Int) : Int := if m = 0 then 0 else Int.tdiv (tr * r) m
def outB (tr m r l : Int) : Int := if m = 0 then 0 else Int.tdiv (tr * (r + l)) m - Int.tdiv (tr * r) m
theorem tdiv_wide {a b : Int} (h : 0 ≤ a ∧ a ≤ 100000000000000000) (hb : 0 < b) : 0 ≤ Int.tdiv a b ∧ Int.tdiv a b ≤ 100000000000000000 := by
  have h1 := Int.tdiv_nonneg h.1 (Int.le_of_lt hb)
  have h2 : Int.tdiv a b ≤ a := by
    rw [Int.tdiv_eq_ediv_of_nonneg h.1]
    exact Int.ediv_le_self _ h.1
  omega
theorem impl_ShareOut (tr r m : Int) (w : World) (hm : 1 ≤ m ∧ m ≤ 10000000) (ht : 0 ≤ tr ∧ tr ≤ 1000 * m) (hr : 0 ≤ r ∧ r ≤ m) :
    Calls Try.prog 58 #[.int .i64 tr, .int .i64 r, .int .i64 m] w fun e w' => e = .returned (.int .i64 (Int.tdiv (tr * r) m)) ∧ w = w' := by
  have H1 := hid (show inR m 1 10000000 = true from inR_iff.2 hm)
  have H2 := hid (show inR r 0 m = true from inR_iff.2 hr)
  have H3 := hid (show inR tr 0 (1000 * m) = true from inR_iff.2 ht)
  have hp := prod_range ht hr hm
  have hq := tdiv_wide (a := tr * r) (b := m) (by omega) (by omega)
  have e1 : IntKind.i64.wrap (1000 * m) = 1000 * m := i64w (by omega) (by omega)
  have e2 : IntKind.i64.wrap (tr * r) = tr * r := by clear e1; exact i64w (by omega) (by omega)
  have e3 : IntKind.i64.wrap (Int.tdiv (tr * r) m) = Int.tdiv (tr * r) m := by clear e1 e2; exact i64w (by omega) (by omega)
  clear hp hq
  go_enter Try.func58, Try.ntmps58
  go_wp2_with fail
  refine (toBool (within _ _ _ _) H1.out).mono ?_
  rintro e w1 ⟨rfl, rfl⟩
  go_wp2_with fail
  refine (toBool (within _ _ _ _) H2.out).mono ?_
  rintro e w1 ⟨rfl, rfl⟩
  go_wp2_with fail
  refine (toBool (within _ _ _ _) H3.out).mono ?_
  rintro e w1 ⟨rfl, rfl⟩
  go_wp2
  go_ret
  exact ⟨rfl, rfl⟩
end Go.Proofs.Ytaidbdogolhnjaa.U
set_option linter.unusedVariables false
set_option linter.unusedSimpArgs false
namespace Go.Proofs.Ytaidbdogolhnjaa.U
open Go.RowKit Go.Lib Go.Proofs.YtaidbdogolhnjaaW.PrintWords

/-- the flux through face i in tick t, 0 at a face that is not active or is none -/
def fl (s : Sta) (t : Int) (i : Nat) : Int := if i + 1 < s.lv.length ∧ actB t (faceL s.lv i) = true then fluxS s i else 0
def flL (s : Sta) (t : Int) : Nat → Int
  | 0 => 0
  | i + 1 => fl s t i
def goR (s : Sta) (t : Int) (i : Nat) : Int := max (fl s t i) 0
def goL (s : Sta) (t : Int) (i : Nat) : Int := max (-(flL s t i)) 0
/-- the tracer that leaves leaf i to the right, to the left -/
def oA (s : Sta) (t : Int) (i : Nat) : Int := outA (rd s.ts (i : Int)) (rd s.ms (i : Int)) (goR s t i)
def oB (s : Sta) (t : Int) (i : Nat) : Int := outB (rd s.ts (i : Int)) (rd s.ms (i : Int)) (goR s t i) (goL s t i)
def oAL (s : Sta) (t : Int) : Nat → Int
  | 0 => 0
  | i + 1 => oA s t i
def stM (s : Sta) (t : Int) (i : Nat) : Int := rd s.ms (i : Int) - fl s t i + flL s t i
def stT (s : Sta) (t : Int) (i : Nat) : Int := rd s.ts (i : Int) - oA s t i - oB s t i + oAL s t i + (if i + 1 < s.lv.length then oB s t (i + 1) else 0)
/-- the state after tick t -/
def stepS (s : Sta) (t : Int) : Sta := ⟨s.ro, s.lv, (List.range s.lv.length).map (stM s t), (List.range s.lv.length).map (stT s t), s.bd⟩
theorem pairF_range {sa sb ma mb la lb : Int} (h : FxOk sa sb ma mb la lb) : -(Int.tdiv mb 4) ≤ pairF sa sb ma mb la lb ∧ pairF sa sb ma mb la lb ≤ Int.tdiv ma 4 := by
  have h1 := Int.tdiv_nonneg h.ma.1 (show (0 : Int) ≤ 4 by omega)
  have h2 := Int.tdiv_nonneg h.mb.1 (show (0 : Int) ≤ 4 by omega)
  simp only [pairF, bigMax_max, smallMin_min]
  omega
theorem quarter {m : Int} (h : 0 ≤ m) : 0 ≤ Int.tdiv m 4 ∧ 4 * Int.tdiv m 4 ≤ m := by
  rw [Int.tdiv_eq_ediv_of_nonneg h]
  omega
theorem fl_range {s : Sta} (hs : StF s) (t : Int) (i : Nat) (hi : i < s.lv.length) : 4 * fl s t i ≤ rd s.ms (i : Int) ∧ (i + 1 < s.lv.length → -(rd s.ms ((i + 1 : Nat) : Int)) ≤ 4 * fl s t i) ∧ (¬ i + 1 < s.lv.length → fl s t i = 0) := by
  have hm := hs.mv i hi
  have hq := quarter hm.1
  unfold fl
  split
  · rename_i h
    have h1 := pairF_range (flux_ok hs h.1)
    have h2 := quarter (hs.mv (i + 1) h.1).1
    rw [fluxS]
    exact ⟨by omega, fun _ => by omega, fun h3 => absurd h.1 h3⟩
  · exact ⟨by omega, fun h => by have := hs.mv (i + 1) h; omega, fun _ => rfl⟩
theorem go_range {s : Sta} (hs : StF s) (t : Int) (i : Nat) (hi : i < s.lv.length) : 0 ≤ goR s t i ∧ 0 ≤ goL s t i ∧ 4 * goR s t i ≤ rd s.ms (i : Int) ∧ 4 * goL s t i ≤ rd s.ms (i : Int) ∧ goR s t i + goL s t i ≤ rd s.ms (i : Int) := by
  have h1 := fl_range hs t i hi
  have hm := hs.mv i hi
  have h2 : -(rd s.ms (i : Int)) ≤ 4 * flL s t i := by
    cases i with
    | zero => simp only [flL]; omega
    | succ i => exact (fl_range hs t i (by omega)).2.1 hi
  simp only [goR, goL]
  omega
/-- nothing leaves to the right if nothing flows -/
theorem oA_zero (s : Sta) (t : Int) (i : Nat) (h : fl s t i ≤ 0) : oA s t i = 0 := by
  have e : goR s t i = 0 := by rw [goR]; omega
  rw [oA, e, outA]
  split
  · rfl
  · rw [Int.mul_zero]; simp
theorem oB_zero (s : Sta) (t : Int) (i : Nat) (h : 0 ≤ flL s t i) : oB s t i = 0 := by
  have e : goL s t i = 0 := by rw [goL]; omega
  rw [oB, e, outB]
  split
  · rfl
  · rw [Int.add_zero]; omega
end Go.Proofs.Ytaidbdogolhnjaa.U
set_option linter.unusedVariables false
set_option linter.unusedSimpArgs false
namespace Go.Proofs.Ytaidbdogolhnjaa.U
open Go.RowKit Go.Lib Go.Proofs.YtaidbdogolhnjaaW.PrintWords

/-- a row by its places -/
def rowOf (n : Nat) (f : Nat → Int) : List Int := (List.range n).map f
theorem rowOf_len (n : Nat) (f : Nat → Int) : (rowOf n f).length = n := by simp [rowOf]
theorem rd_rowOf {n i : Nat} (f : Nat → Int) (hi : i < n) : rd (rowOf n f) (i : Int) = f i := by
  rw [rd_nat, List.getD_eq_getElem?_getD, rowOf, List.getElem?_map, List.getElem?_range hi]
  rfl
theorem rowOf_congr {n : Nat} {f g : Nat → Int} (h : ∀ j, j < n → f j = g j) : rowOf n f = rowOf n g := by
  unfold rowOf
  exact List.map_congr_left fun j hj => h j (List.mem_range.1 hj)
theorem rowOf_set (n i : Nat) (f : Nat → Int) (x : Int) : (rowOf n f).set i x = rowOf n (fun j => if j = i then x else f j) := by
  apply List.ext_getElem?
  intro j
  rw [List.getElem?_set, rowOf, rowOf, List.length_map, List.length_range, List.getElem?_map, List.getElem?_map]
  by_cases hj : j < n
  · rw [List.getElem?_range hj]
    by_cases e : i = j
    · subst e; simp [hj]
    · rw [if_neg e]; simp [show ¬ j = i from fun q => e q.symm]
  · have hn : (List.range n)[j]? = none := List.getElem?_eq_none (by simp; omega)
    rw [hn]
    split
    · simp; omega
    · rfl
theorem rowOf_self {l : List Int} {n : Nat} (h : l.length = n) : rowOf n (fun j => rd l (j : Int)) = l := by
  subst h
  apply List.ext_getElem?
  intro j
  rw [rowOf, List.getElem?_map]
  by_cases hj : j < l.length
  · rw [List.getElem?_range hj, List.getElem?_eq_getElem hj]
    simp [rd_nat, List.getD_eq_getElem?_getD, List.getElem?_eq_getElem hj]
  · rw [List.getElem?_eq_none (by simp; omega), List.getElem?_eq_none (by omega)]; rfl
theorem rowOf_zero (n : Nat) : List.replicate n (0 : Int) = rowOf n (fun _ => 0) := by
  apply List.ext_getElem?
  intro j
  rw [rowOf, List.getElem?_map, List.getElem?_replicate]
  by_cases hj : j < n
  · rw [List.getElem?_range hj, if_pos hj]; rfl
  · rw [List.getElem?_eq_none (by simp; omega), if_neg hj]; rfl
/-- a row by its places that a shift of x from i to j leaves behind -/
def shf (f : Nat → Int) (i : Nat) (j : Int) (x : Int) (q : Nat) : Int := f q - (if q = i then x else 0) + (if (q : Int) = j then x else 0)
theorem shf_set {n i j : Nat} {f : Nat → Int} {x : Int} (hi : i < n) (hj : j < n) (hne : i ≠ j) :
    (((rowOf n f).set i (rd (rowOf n f) (i : Int) - x)).set j (rd ((rowOf n f).set i (rd (rowOf n f) (i : Int) - x)) (j : Int) + x)) = rowOf n (shf f i (j : Int) x) := by
  rw [rd_rowOf f hi, rowOf_set, rd_rowOf _ hj, rowOf_set]
  refine rowOf_congr fun q hq => ?_
  unfold shf
  by_cases h1 : q = i
  · subst h1
    have h3 : ¬ ((q : Int) = (j : Int)) := by omega
    simp [hne, h3]
  · by_cases h2 : q = j
    · subst h2
      simp [h1]
    · have h3 : ¬ ((q : Int) = (j : Int)) := by omega
      simp [h1, h2, h3]
theorem shf_zero (f : Nat → Int) (i : Nat) (j : Int) : shf f i j 0 = f := by
  funext q
  unfold shf
  simp
/-- the state as a tick needs it -/
structure StG (s : Sta) : Prop where
  f : StF s
  tv : ∀ i : Nat, i < s.lv.length → 0 ≤ rd s.ts (i : Int) ∧ rd s.ts (i : Int) ≤ 1000 * rd s.ms (i : Int)
  one : 1 ≤ s.lv.length
theorem StG.of {s : Sta} (h : staOk s.ro s.lv s.ms s.ts s.bd = true) : StG s := by
  refine ⟨StF.of h, fun i hi => ?_, ?_⟩
  · simp only [staOk, hasC, Bool.and_eq_true, decide_eq_true_iff] at h
    obtain ⟨_, ⟨⟨⟨⟨h2, h3⟩, h4⟩, h5⟩, h6⟩, _⟩ := h
    exact (cellsOk_at s.ms s.ts _ 0 h6 i (by omega) (by omega)).2
  · simp only [staOk, isBal, Bool.and_eq_true] at h
    exact (meshOk_len h.1.1).2.2
theorem oAB_range {s : Sta} (hs : StG s) (t : Int) (i : Nat) (hi : i < s.lv.length) : 0 ≤ oA s t i ∧ 0 ≤ oB s t i ∧ oA s t i + oB s t i ≤ 10000000000 := by
  have hm := hs.f.mv i hi
  have ht := hs.tv i hi
  have hg := go_range hs.f t i hi
  rw [oA, oB, outA, outB]
  split
  · omega
  · rename_i h0
    generalize rd s.ms (i : Int) = m at *
    generalize rd s.ts (i : Int) = tr at *
    generalize goR s t i = r at *
    generalize goL s t i = l at *
    have h1 : 0 ≤ tr * r := Int.mul_nonneg ht.1 hg.1
    have h2 : tr * r ≤ tr * (r + l) := Int.mul_le_mul_of_nonneg_left (by omega) ht.1
    have h3 : tr * (r + l) ≤ tr * m := Int.mul_le_mul_of_nonneg_left (by omega) ht.1
    have mp : 0 < m := by omega
    rw [Int.tdiv_eq_ediv_of_nonneg h1, Int.tdiv_eq_ediv_of_nonneg (by omega)]
    have h4 : tr * r / m ≤ tr * (r + l) / m := Int.ediv_le_ediv mp h2
    have h5 : tr * (r + l) / m ≤ tr := by
      have := Int.ediv_le_ediv mp h3
      rwa [Int.mul_ediv_cancel _ (by omega)] at this
    have h6 : 0 ≤ tr * r / m := Int.ediv_nonneg h1 (by omega)
    refine ⟨h6, by omega, by omega⟩
/-- what the first k leaves have shifted: of mass, of tracer -/
def dlt (a b : Nat → Int) (k j : Nat) : Int := -(if j < k then a j + b j else 0) + (if 0 < j ∧ j ≤ k then a (j - 1) else 0) + (if j + 1 < k then b (j + 1) else 0)
theorem dlt_zero (a b : Nat → Int) : dlt a b 0 = fun _ => 0 := by
  funext j
  unfold dlt
  rw [if_neg (by omega), if_neg (by omega), if_neg (by omega)]
  rfl
theorem dlt_succ (a b : Nat → Int) (k q : Nat) : shf (shf (dlt a b k) k ((k : Int) + 1) (a k)) k ((k : Int) - 1) (b k) q = dlt a b (k + 1) q := by
  unfold shf dlt
  by_cases h1 : q + 1 = k
  · subst h1
    rw [if_pos (show q < q + 1 by omega), if_neg (show ¬ q + 1 < q + 1 by omega), if_neg (show ¬ q = q + 1 by omega), if_neg (show ¬ ((q : Int) = ((q + 1 : Nat) : Int) + 1) by omega), if_pos (show (q : Int) = ((q + 1 : Nat) : Int) - 1 by omega), if_pos (show q < q + 1 + 1 by omega), if_pos (show q + 1 < q + 1 + 1 by omega)]
    by_cases h0 : 0 < q
    · rw [if_pos (show 0 < q ∧ q ≤ q + 1 from ⟨h0, by omega⟩), if_pos (show 0 < q ∧ q ≤ q + 1 + 1 from ⟨h0, by omega⟩)]; omega
    · rw [if_neg (by omega), if_neg (by omega)]; omega
  · rw [if_neg (show ¬ (q : Int) = (k : Int) - 1 by omega)]
    by_cases h2 : q = k
    · subst h2
      rw [if_neg (show ¬ q < q by omega), if_pos rfl, if_neg (show ¬ q + 1 < q by omega), if_neg (show ¬ ((q : Int) = (q : Int) + 1) by omega), if_pos rfl, if_pos (show q < q + 1 by omega), if_neg (show ¬ q + 1 < q + 1 by omega)]
      by_cases h0 : 0 < q
      · rw [if_pos ⟨h0, by omega⟩, if_pos ⟨h0, by omega⟩]; omega
      · rw [if_neg (by omega), if_neg (by omega)]; omega
    · rw [if_neg h2, if_neg h2]
      by_cases h3 : q = k + 1
      · subst h3
        rw [if_neg (show ¬ k + 1 < k by omega), if_neg (show ¬ (0 < k + 1 ∧ k + 1 ≤ k) by omega), if_neg (show ¬ k + 1 + 1 < k by omega), if_pos (show ((k + 1 : Nat) : Int) = (k : Int) + 1 by omega), if_neg (show ¬ k + 1 < k + 1 by omega), if_pos (show 0 < k + 1 ∧ k + 1 ≤ k + 1 by omega), if_neg (show ¬ k + 1 + 1 < k + 1 by omega)]
        simp
      · rw [if_neg (show ¬ (q : Int) = (k : Int) + 1 by omega)]
        have e1 : (q < k) = (q < k + 1) := by apply propext; omega
        have e2 : (0 < q ∧ q ≤ k) = (0 < q ∧ q ≤ k + 1) := by apply propext; omega
        have e3 : (q + 1 < k) = (q + 1 < k + 1) := by apply propext; omega
        simp only [e1, e2, e3]
        omega
theorem dlt_range {a b : Nat → Int} {n k j : Nat} {B : Int} (hB : 0 ≤ B) (h : ∀ i, i < n → (0 ≤ a i ∧ a i ≤ B) ∧ 0 ≤ b i ∧ b i ≤ B) (hk : k ≤ n) (hj : j < n) : -(2 * B) ≤ dlt a b k j ∧ dlt a b k j ≤ 2 * B := by
  have h1 := h j hj
  unfold dlt
  by_cases c1 : 0 < j ∧ j ≤ k
  · have h2 := h (j - 1) (by omega)
    rw [if_pos c1]
    by_cases c2 : j + 1 < k
    · have h3 := h (j + 1) (by omega)
      rw [if_pos c2]
      split <;> omega
    · rw [if_neg c2]
      split <;> omega
  · rw [if_neg c1]
    by_cases c2 : j + 1 < k
    · have h3 := h (j + 1) (by omega)
      rw [if_pos c2]
      split <;> omega
    · rw [if_neg c2]
      split <;> omega
theorem shf_range {f : Nat → Int} {i : Nat} {j x B C : Int} {q : Nat} (h : -B ≤ f q ∧ f q ≤ B) (hx : 0 ≤ x ∧ x ≤ C) : -(B + C) ≤ shf f i j x q ∧ shf f i j x q ≤ B + C := by
  unfold shf
  split <;> split <;> omega
/-- all leaves have shifted: the tick -/
theorem stM_dlt {s : Sta} (hs : StG s) (t : Int) (j : Nat) (hj : j < s.lv.length) : stM s t j = rd s.ms (j : Int) + dlt (goR s t) (goL s t) s.lv.length j := by
  have hr := fl_range hs.f t j hj
  unfold stM dlt
  rw [if_pos hj]
  have h1 : (if 0 < j ∧ j ≤ s.lv.length then goR s t (j - 1) else 0) = max (flL s t j) 0 := by
    cases j with
    | zero => simp [flL]
    | succ j => rw [if_pos ⟨by omega, by omega⟩]; rfl
  have h2 : (if j + 1 < s.lv.length then goL s t (j + 1) else 0) = max (-(fl s t j)) 0 := by
    split
    · rfl
    · rw [hr.2.2 (by assumption)]; rfl
  rw [h1, h2, goR, goL]
  omega
theorem stT_dlt {s : Sta} (t : Int) (j : Nat) (hj : j < s.lv.length) : stT s t j = rd s.ts (j : Int) + dlt (oA s t) (oB s t) s.lv.length j := by
  unfold stT dlt
  rw [if_pos hj]
  have h1 : (if 0 < j ∧ j ≤ s.lv.length then oA s t (j - 1) else 0) = oAL s t j := by
    cases j with
    | zero => simp [oAL]
    | succ j => rw [if_pos ⟨by omega, by omega⟩]; rfl
  rw [h1]
  omega
theorem mem_actTo (l : List Ce) (t : Int) (i : Int) : ∀ j, i ∈ actTo l t j ↔ ∃ k : Nat, k < j ∧ i = (k : Int) ∧ actB t (faceL l k) = true
  | 0 => by simp [actTo]
  | j + 1 => by
    have ih := mem_actTo l t i j
    rw [actTo]
    split
    · rename_i h
      rw [List.mem_append, ih, List.mem_singleton]
      constructor
      · rintro (⟨k, h1, h2, h3⟩ | h1)
        · exact ⟨k, by omega, h2, h3⟩
        · exact ⟨j, by omega, h1, h⟩
      · rintro ⟨k, h1, h2, h3⟩
        rcases Nat.lt_or_ge k j with h4 | h4
        · exact Or.inl ⟨k, h4, h2, h3⟩
        · exact Or.inr (by rw [h2]; congr 1; omega)
    · rename_i h
      rw [ih]
      constructor
      · rintro ⟨k, h1, h2, h3⟩
        exact ⟨k, by omega, h2, h3⟩
      · rintro ⟨k, h1, h2, h3⟩
        refine ⟨k, ?_, h2, h3⟩
        rcases Nat.lt_or_ge k j with h4 | h4
        · exact h4
        · obtain rfl : k = j := by omega
          exact absurd h3 h
/-- the program's two rows behind the faces p: to the right, to the left -/
def pR (s : Sta) (p : List Int) (j : Nat) : Int := if (j : Int) ∈ p then max (fluxS s j) 0 else 0
def pL (s : Sta) (p : List Int) (j : Nat) : Int := if 0 < j ∧ ((j : Int) - 1) ∈ p then max (-(fluxS s (j - 1))) 0 else 0
theorem pR_nil (s : Sta) : pR s [] = fun _ => 0 := by funext j; simp [pR]
theorem pL_nil (s : Sta) : pL s [] = fun _ => 0 := by funext j; simp [pL]
theorem pR_snoc (s : Sta) (p : List Int) (i q : Nat) : pR s (p ++ [(i : Int)]) q = if q = i then max (fluxS s i) 0 else pR s p q := by
  unfold pR
  by_cases h : q = i
  · subst h; simp
  · have h2 : ¬ (q : Int) = (i : Int) := by omega
    simp [h, h2]
theorem pL_snoc (s : Sta) (p : List Int) (i q : Nat) : pL s (p ++ [(i : Int)]) q = if q = i + 1 then max (-(fluxS s i)) 0 else pL s p q := by
  unfold pL
  by_cases h : q = i + 1
  · subst h
    rw [if_pos rfl, if_pos ⟨by omega, by simp⟩]
    rfl
  · rw [if_neg h]
    by_cases h0 : 0 < q
    · have h2 : ¬ (q : Int) - 1 = (i : Int) := by omega
      simp [h0, h2]
    · simp [h0]
theorem pR_all (s : Sta) (t : Int) (j : Nat) : pR s (actTo s.lv t (s.lv.length - 1)) j = goR s t j := by
  unfold pR goR fl
  by_cases h : j + 1 < s.lv.length ∧ actB t (faceL s.lv j) = true
  · rw [if_pos h, if_pos ((mem_actTo _ _ _ _).2 ⟨j, by omega, rfl, h.2⟩)]
  · rw [if_neg h, if_neg]
    · rfl
    · intro h2
      obtain ⟨k, h3, h4, h5⟩ := (mem_actTo _ _ _ _).1 h2
      obtain rfl : j = k := by omega
      exact h ⟨by omega, h5⟩
theorem pL_all (s : Sta) (t : Int) (j : Nat) : pL s (actTo s.lv t (s.lv.length - 1)) j = goL s t j := by
  cases j with
  | zero => simp [pL, goL, flL]
  | succ j =>
    unfold pL goL
    rw [flL, fl]
    by_cases h : j + 1 < s.lv.length ∧ actB t (faceL s.lv j) = true
    · rw [if_pos h, if_pos ⟨by omega, (mem_actTo _ _ _ _).2 ⟨j, by omega, by omega, h.2⟩⟩]
      rfl
    · rw [if_neg h, if_neg]
      · rfl
      · rintro ⟨_, h2⟩
        obtain ⟨k, h3, h4, h5⟩ := (mem_actTo _ _ _ _).1 h2
        obtain rfl : j = k := by omega
        exact h ⟨by omega, h5⟩
end Go.Proofs.Ytaidbdogolhnjaa.U
set_option linter.unusedVariables false
set_option linter.unusedSimpArgs false
namespace Go.Proofs.Ytaidbdogolhnjaa.U
open Go.RowKit Go.Lib Go.Proofs.YtaidbdogolhnjaaW.PrintWords

structure SH (w : World) (base mb tb G H n c1 c2 : Nat) (M T : List Int) : Prop where
  cm : w.cell? ⟨mb, 0, none⟩ = some (.slice (some ⟨G, 0, none⟩) n c1)
  ct : w.cell? ⟨tb, 0, none⟩ = some (.slice (some ⟨H, 0, none⟩) n c2)
  m : OI w base (.slice (some ⟨G, 0, none⟩) n c1) n M
  t : OI w base (.slice (some ⟨H, 0, none⟩) n c2) n T
  ne : G ≠ H ∧ mb ≠ G ∧ mb ≠ H ∧ tb ≠ G ∧ tb ≠ H
section
variable {w : World} {base mb tb G H n c1 c2 : Nat} {M T : List Int}
theorem cell_off {w : World} {g i b : Nat} {u v : Value} (h : w.cell? ⟨b, 0, none⟩ = some v) (hne : b ≠ g) : (w.setCell ⟨g, i, none⟩ u).cell? ⟨b, 0, none⟩ = some v := by
  rw [World.cell?_of_block (Below.heap_setCell w ⟨g, i, none⟩ u b (fun e => hne (by simpa using e)))]
  exact h
theorem oi_off {w : World} {base n g i c b : Nat} {u : Value} {l : List Int} (h : OI w base (.slice (some ⟨b, 0, none⟩) n c) n l) (hne : b ≠ g) : OI (w.setCell ⟨g, i, none⟩ u) base (.slice (some ⟨b, 0, none⟩) n c) n l :=
  ⟨own_move h.out fun q hq => Below.heap_setCell w ⟨g, i, none⟩ u q (fun e => by simp [Value.ownBlock] at hq; simp at e; omega)⟩
theorem SH.setM (h : SH w base mb tb G H n c1 c2 M T) (i : Nat) (x : Int) : SH (w.setCell ⟨G, i, none⟩ (.int .i64 x)) base mb tb G H n c1 c2 (M.set i x) T :=
  ⟨cell_off h.cm h.ne.2.1, cell_off h.ct h.ne.2.2.2.1, oi_store h.m i x, oi_off h.t (fun e => h.ne.1 e.symm), h.ne⟩
theorem SH.setT (h : SH w base mb tb G H n c1 c2 M T) (i : Nat) (x : Int) : SH (w.setCell ⟨H, i, none⟩ (.int .i64 x)) base mb tb G H n c1 c2 M (T.set i x) :=
  ⟨cell_off h.cm h.ne.2.2.1, cell_off h.ct h.ne.2.2.2.2, oi_off h.m h.ne.1, oi_store h.t i x, h.ne⟩
end
/-- only the blocks G and H have turned -/
structure Sh2 (w w' : World) (G H : Nat) : Prop where
  os : w'.os = w.os
  tape : w'.tape = w.tape
  output : w'.output = w.output
  size : w'.heap.size = w.heap.size
  block : ∀ b, b ≠ G → b ≠ H → w'.heap[b]? = w.heap[b]?
theorem Sh2.refl (w : World) (G H : Nat) : Sh2 w w G H := ⟨rfl, rfl, rfl, rfl, fun _ _ _ => rfl⟩
theorem Sh2.set {w w' : World} {G H : Nat} (h : Sh2 w w' G H) (g i : Nat) (u : Value) (hg : g = G ∨ g = H) : Sh2 w (w'.setCell ⟨g, i, none⟩ u) G H :=
  ⟨h.os, h.tape, h.output, by rw [← h.size]; simp [World.setCell], fun b h1 h2 => (Below.heap_setCell w' ⟨g, i, none⟩ u b (fun e => by simp at e; omega)).trans (h.block b h1 h2)⟩
end Go.Proofs.Ytaidbdogolhnjaa.U
set_option linter.unusedVariables false
set_option linter.unusedSimpArgs false
namespace Go.Proofs.Ytaidbdogolhnjaa.U
open Go.RowKit Go.Lib Go.Proofs.YtaidbdogolhnjaaW.PrintWords

open Go.Proofs.YtaidbdogolhnjaaW.PrintLast Go.Proofs.YtaidbdogolhnjaaW.PrintMore
def move0T : Bool × List (List Nat × List Nat) := (true, [([], []), ([0], [0]), ([1], [1]), ([2], [2]), ([3], [3]), ([4, 4], [4]), ([], []), ([6], [6]), ([7], [7]), ([8], [8]), ([9], [9]), ([10, 10], [10]), ([5, 0, 1, 2, 3, 4, 5], [5]), ([11, 12, 0, 1, 2, 3, 4, 5, 6, 7, 8, 9, 10, 11, 12], [11])])
def move0B : List Nat := [0, 1, 3, 7, 15, 31, 0, 64, 192, 448, 960, 1984, 63, 8191]
theorem move0bits : waitsOk move0T.2 move0B = true := by kernel_rfl
def move9T : Bool × List (List Nat × List Nat) := (true, [([], []), ([0], [0]), ([1], [1]), ([2], [2]), ([3], [3]), ([4, 4], [4]), ([], []), ([6], [6]), ([7], [7]), ([8], [8]), ([9], [9]), ([10, 10], [10]), ([], []), ([], []), ([12, 5, 0, 1, 2, 3, 4, 5, 12, 13], [5, 12]), ([13, 11, 14, 0, 1, 2, 3, 4, 5, 6, 7, 8, 9, 10, 11, 12, 13, 14], [11, 13])])
def move9B : List Nat := [0, 1, 3, 7, 15, 31, 0, 64, 192, 448, 960, 1984, 0, 0, 12351, 32767]
theorem move9bits : waitsOk move9T.2 move9B = true := by kernel_rfl
section
variable {P : Program} {ops : Array Oper} {o : Oper} {a : Act} {Q : Exit → Act → World → Prop} {Kc : Act → World → Prop}
theorem mkN_step {W : World} {n : Nat} (hn : n ≤ 9223372036854775807) (hw : Region.wanted o (yielded ops a.tmps) = true) {N : Tmp} (_hd : o.dst = some N)
    (hrun : (execOp a.eval o).run P W = .ok (.value (.slice (some ⟨W.heap.size, 0, none⟩) n n)) (W.alloc (.cells (madeCells #[.int .i64 0] n) 3)))
    (h : ∀ X y w1, FO w1 W.heap.size 3 1 (.slice X n y) n (rowOf n (fun _ => 0)) → Bw W w1 → Kc (a.put o.dst (.slice X n y)) w1) : if Region.wanted o (yielded ops a.tmps) = true then Oper.wp P o a W Kc Q else Kc (a.put o.dst undef) W :=
  event_step hw hrun (h _ _ _ ⟨by rw [← rowOf_zero]; exact own_made W W.heap.size 3 .i64 n (Nat.le_refl _) hn⟩ ((Bw.refl W).alloc _))
end
theorem make_n (n : Nat) (hn : n ≤ 1000000) : ∀ W : World, (Instr.makeSlice 27 (.int .i64 (n : Int)) (.int .i64 (n : Int))).run Try.prog W = .ok (.slice (some ⟨W.heap.size, 0, none⟩) n n) (W.alloc (.cells (madeCells #[.int .i64 0] n) 3)) := fun W => by
  have h := make_st (P := Try.prog) 27 3 (.int .i64 0) 1 8 Try.underlying27 info_int n (by omega) (by omega) W
  rw [h, Nat.mul_one]
  rfl
theorem SH.to {w w' : World} {base mb tb G H n c1 c2 : Nat} {M T : List Int} (h : SH w base mb tb G H n c1 c2 M T) (b : Bw w w') : SH w' base mb tb G H n c1 c2 M T := ⟨pw_cell_below b.out h.cm, pw_cell_below b.out h.ct, h.m.to b, h.t.to b, h.ne⟩
theorem oi_sh2 {w w' : World} {base n c b G H : Nat} {l : List Int} (h : OI w base (.slice (some ⟨b, 0, none⟩) n c) n l) (z : Sh2 w w' G H) (h1 : b ≠ G) (h2 : b ≠ H) : OI w' base (.slice (some ⟨b, 0, none⟩) n c) n l := ⟨own_move h.out fun q hq => by
  have e : b = q := by simpa [Value.ownBlock] using hq
  exact z.block q (by omega) (by omega)⟩
theorem Sh2.bw {W w w' : World} {G H : Nat} (z : Sh2 w w' G H) (b : Bw W w) (hG : W.heap.size ≤ G) (hH : W.heap.size ≤ H) : Bw W w' := ⟨⟨z.os.trans b.out.os, z.tape.trans b.out.tape, z.output.trans b.out.output, by rw [z.size]; exact b.out.size, fun k hk => (z.block k (by omega) (by omega)).trans (b.out.block k hk)⟩⟩
theorem Sh2.cell {w w' : World} {G H : Nat} (z : Sh2 w w' G H) {p : Addr} {v : Value} (h : w.cell? p = some v) (h1 : p.block ≠ G) (h2 : p.block ≠ H) : w'.cell? p = some v := by
  rw [World.cell?_of_block (z.block p.block h1 h2)]
  exact h
theorem cell_offp {w : World} {g i : Nat} {p : Addr} {u v : Value} (h : w.cell? p = some v) (hne : p.block ≠ g) : (w.setCell ⟨g, i, none⟩ u).cell? p = some v := by
  rw [World.cell?_of_block (Below.heap_setCell w ⟨g, i, none⟩ u p.block (fun e => hne (by simpa using e)))]
  exact h
/-- the row while the k first places are new -/
def mixf (f g : Nat → Int) (k j : Nat) : Int := if j < k then f j else g j
theorem mixf_zero (f g : Nat → Int) : mixf f g 0 = g := by funext j; simp [mixf]
theorem mixf_self (f g : Nat → Int) (k : Nat) : mixf f g k k = g k := if_neg (by omega)
theorem mixf_all {j n : Nat} (f g : Nat → Int) (h : j < n) : mixf f g n j = f j := if_pos h
theorem mixf_step (f g : Nat → Int) (n k : Nat) (x : Int) (h : x = f k) : (rowOf n (mixf f g k)).set k x = rowOf n (mixf f g (k + 1)) := by
  rw [rowOf_set]
  refine rowOf_congr fun j hj => ?_
  unfold mixf
  by_cases e : j = k
  · subst e; rw [if_pos rfl, if_pos (by omega), h]
  · rw [if_neg e]
    by_cases e2 : j < k
    · rw [if_pos e2, if_pos (by omega)]
    · rw [if_neg e2, if_neg (by omega)]
theorem Sh2.dr {w w' : World} {G H : Nat} (z : Sh2 w w' G H) : Sh2 w w'.drew G H := ⟨by rw [← z.os]; rfl, by rw [← z.tape]; rfl, by rw [← z.output]; rfl, by rw [← z.size]; rfl, fun b h1 h2 => (z.block b h1 h2)⟩
theorem faces_pos {n : Nat} {s : Sta} {p : List Int} {i : Nat} (h : 0 < fluxS s i) : (rowOf n (pR s p)).set i (fluxS s i) = rowOf n (pR s (p ++ [(i : Int)])) ∧ rowOf n (pL s p) = rowOf n (pL s (p ++ [(i : Int)])) := by
  refine ⟨?_, rowOf_congr fun q hq => ?_⟩
  · rw [rowOf_set]
    refine rowOf_congr fun q hq => ?_
    rw [pR_snoc]
    split
    · omega
    · rfl
  · rw [pL_snoc]
    split
    · rename_i e
      subst e
      unfold pL
      rw [show i + 1 - 1 = i by omega]
      split <;> omega
    · rfl
theorem faces_neg {n : Nat} {s : Sta} {p : List Int} {i : Nat} (h : ¬ 0 < fluxS s i) : rowOf n (pR s p) = rowOf n (pR s (p ++ [(i : Int)])) ∧ (rowOf n (pL s p)).set (i + 1) (-(fluxS s i)) = rowOf n (pL s (p ++ [(i : Int)])) := by
  refine ⟨rowOf_congr fun q hq => ?_, ?_⟩
  · rw [pR_snoc]
    split
    · rename_i e
      subst e
      unfold pR
      split <;> omega
    · rfl
  · rw [rowOf_set]
    refine rowOf_congr fun q hq => ?_
    rw [pL_snoc]
    split
    · omega
    · rfl
end Go.Proofs.Ytaidbdogolhnjaa.U
