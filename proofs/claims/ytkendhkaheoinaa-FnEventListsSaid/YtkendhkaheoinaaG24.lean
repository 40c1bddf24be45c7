
/- Lists of events: the plain law. -/
import Derived.Test.YtkendhkaheoinaaEa
import Derived.Test.YtkendhkaheoinaaG17
import Derived.Test.YtkendhkaheoinaaG15
import Derived.Test.YtkendhkaheoinaaG14
set_option linter.unusedVariables false
set_option linter.unusedSimpArgs false
namespace Go.Proofs.Ytkendhkaheoinaa.U
open Go.RowKit Go.Lib Go.Proofs.YtkendhkaheoinaaW.PrintWords
def evI (l : List Ce) (t j : Nat) : List Ev := (actTo l (t : Int) j).map fun f => ⟨(t : Int), f⟩
theorem evI_succ (l : List Ce) (t j : Nat) : evI l t (j + 1) = if actB (t : Int) (faceL l j) = true then evI l t j ++ [⟨(t : Int), (j : Int)⟩] else evI l t j := by
 unfold evI
 rw [actTo]
 split
 ·rw [List.map_append]; rfl
 ·rfl
def evs (l : List Ce) (a : Nat) : Nat → List Ev
 | 0 => []
 | b + 1 => if a ≤ b then evs l a b ++ evI l b (l.length - 1) else []
def tks (l : List Ce) (a : Nat) : Nat → List Nat
 | 0 => []
 | b + 1 => if a ≤ b then (if actTo l (b : Int) (l.length - 1) = [] then tks l a b else tks l a b ++ [b]) else []
def runT (s : Sta) (ts : List Nat) : Sta := ts.foldl (fun (s : Sta) (t : Nat) => stepS s (t : Int)) s
def runA (s : Sta) (a : Nat) : Nat → Sta
 | 0 => s
 | b + 1 => if a ≤ b then stepS (runA s a b) (b : Int) else s
theorem actTo_nil {l : List Ce} {t : Int} : ∀ {j : Nat}, actTo l t j = [] → ∀ i, i < j → actB t (faceL l i) = false
 | 0, _, i, h => by omega
 | j + 1, h, i, hi => by
  rw [actTo] at h
  split at h
  ·simp at h
  ·rename_i hn
   by_cases e : i = j
   ·subst e; simpa using hn
   ·exact actTo_nil h i (by omega)
theorem actTo_mem {l : List Ce} {t : Int} : ∀ {j : Nat} {x : Int}, x ∈ actTo l t j → 0 ≤ x ∧ x < (j : Int)
 | 0, x, h => by simp [actTo] at h
 | j + 1, x, h => by
  rw [actTo] at h
  split at h
  ·rcases List.mem_append.1 h with h | h
   ·have := actTo_mem h; omega
   ·simp at h; omega
  ·have := actTo_mem h; omega
theorem stepS_idle {s : Sta} (h : StF s) {t : Int} (ha : actTo s.lv t (s.lv.length - 1) = []) : stepS s t = s := by
 have hf : ∀ i, fl s t i = 0 := fun i => by
  unfold fl
  split
  ·rename_i hc
   have := actTo_nil ha i (by omega)
   rw [this] at hc
   simp at hc
  ·rfl
 have hfl : ∀ i, flL s t i = 0 := fun i => by
  cases i with
  | zero => rfl
  | succ i => exact hf i
 have hR : ∀ i, goR s t i = 0 := fun i => by rw [goR, hf]; rfl
 have hL : ∀ i, goL s t i = 0 := fun i => by rw [goL, hfl]; rfl
 have hA : ∀ i, oA s t i = 0 := fun i => by rw [oA, hR, outA]; simp
 have hB : ∀ i, oB s t i = 0 := fun i => by rw [oB, hR, hL, outB]; simp
 have hAL : ∀ i, oAL s t i = 0 := fun i => by
  cases i with
  | zero => rfl
  | succ i => exact hA i
 have hm : stM s t = fun (i : Nat) => rd s.ms (i : Int) := by funext i; rw [stM, hf, hfl]; omega
 have ht : stT s t = fun (i : Nat) => rd s.ts (i : Int) := by funext i; rw [stT, hA, hB, hAL, hB]; split <;> omega
 have e1 : rowOf s.lv.length (stM s t) = s.ms := by rw [hm]; exact rowOf_self h.ms
 have e2 : rowOf s.lv.length (stT s t) = s.ts := by rw [ht]; exact rowOf_self h.ts
 unfold rowOf at e1 e2
 rw [stepS, e1, e2]
theorem runT_same (ts : List Nat) : ∀ s : Sta, (runT s ts).ro = s.ro ∧ (runT s ts).lv = s.lv ∧ (runT s ts).bd = s.bd := by
 induction ts with
 | nil => exact fun s => ⟨rfl, rfl, rfl⟩
 | cons t ts ih => exact fun s => ih (stepS s (t : Int))
theorem runT_ok (ts : List Nat) : ∀ {s : Sta}, staOk s.ro s.lv s.ms s.ts s.bd = true → staOk (runT s ts).ro (runT s ts).lv (runT s ts).ms (runT s ts).ts (runT s ts).bd = true := by
 induction ts with
 | nil => exact fun h => h
 | cons t ts ih => exact fun h => ih (stepS_ok h (t : Int))
theorem runT_snoc (s : Sta) (ts : List Nat) (t : Nat) : runT s (ts ++ [t]) = stepS (runT s ts) (t : Int) := by simp [runT]
theorem runT_tks {s : Sta} (h : staOk s.ro s.lv s.ms s.ts s.bd = true) (a : Nat) : ∀ b, runT s (tks s.lv a b) = runA s a b
 | 0 => rfl
 | b + 1 => by
  have ih := runT_tks h a b
  rw [tks, runA]
  split
  ·split
   ·rename_i hn
    rw [ih]
    have hk := runT_ok (tks s.lv a b) h
    rw [ih] at hk
    have hl := (runT_same (tks s.lv a b) s).2.1
    rw [ih] at hl
    exact (stepS_idle (StF.of hk) (by rw [hl]; exact hn)).symm
   ·rw [runT_snoc, ih]
  ·rfl
theorem runA_macS (s : Sta) : ∀ b, runA s 0 b = macS s b
 | 0 => rfl
 | b + 1 => by rw [runA, if_pos (Nat.zero_le _), runA_macS s b, macS]
theorem runA_split (s : Sta) (a b : Nat) (hab : a ≤ b) : runA (runA s 0 a) a b = runA s 0 b := by
 induction b with
 | zero =>
  obtain rfl : a = 0 := Nat.le_zero.1 hab
  rfl
 | succ b ih =>
  rw [runA, runA]
  by_cases h : a ≤ b
  ·rw [if_pos h, if_pos (Nat.zero_le _), ih h]
  ·obtain rfl : a = b + 1 := by omega
   rw [if_neg h, runA]
theorem tks_len (l : List Ce) (a : Nat) : ∀ b, (tks l a b).length ≤ b
 | 0 => by simp [tks]
 | b + 1 => by
  have ih := tks_len l a b
  rw [tks]
  split
  ·split
   ·omega
   ·rw [List.length_append]; simp; omega
  ·simp
def stepG (s : List (List Int) × Option Int) (x : Ev) : List (List Int) × Option Int := (if s.2 = some x.q then s.1.dropLast ++ [s.1.getLastD [] ++ [x.v]] else s.1 ++ [[x.v]], some x.q)
def grp (L : List Ev) : List (List Int) × Option Int := L.foldl stepG ([], none)
theorem grp_snoc (L : List Ev) (x : Ev) : grp (L ++ [x]) = stepG (grp L) x := by simp [grp]
theorem grp_take {L : List Ev} {i : Nat} (h : i < L.length) : grp (L.take (i + 1)) = stepG (grp (L.take i)) (ge L i) := by
 rw [List.take_add_one, List.getElem?_eq_getElem h, Option.toList_some, grp_snoc, ge_at h]
theorem grp_last {L : List Ev} {i : Nat} (h : i < L.length) : (grp (L.take (i + 1))).2 = some (ge L i).q := by rw [grp_take h]; rfl
theorem grp_ne {L : List Ev} {i : Nat} (h : i < L.length) : (grp (L.take (i + 1))).1 ≠ [] := by
 rw [grp_take h, stepG]
 split <;> simp
theorem grp_len : ∀ (i : Nat) (L : List Ev), i ≤ L.length → (grp (L.take i)).1.length ≤ i ∧ ((grp (L.take i)).1.getLastD []).length ≤ i
 | 0, L, _ => by simp [grp]
 | i + 1, L, h => by
  have ih := grp_len i L (by omega)
  rw [grp_take (by omega), stepG]
  split
  ·simp
   have := ih.1
   have := ih.2
   rw [List.getLastD_eq_getLast?] at this
   omega
  ·simp
   omega
def okX (n : Nat) (p : List (List Int) × Option Int) (x : Ev) : Prop := (∀ t, p.2 = some t → t ≤ x.q) ∧ (0 ≤ x.v ∧ x.v + 2 ≤ (n : Int)) ∧ (p.2 = some x.q → x.v ∉ p.1.getLastD [])
def okE (n : Nat) (L : List Ev) : Prop := ∀ i, i < L.length → okX n (grp (L.take i)) (ge L i)
theorem okE_snoc {n : Nat} {L : List Ev} {x : Ev} (h : okE n L) (hx : okX n (grp L) x) : okE n (L ++ [x]) := fun i hi => by
 rw [List.length_append] at hi
 by_cases e : i < L.length
 ·have := h i e
  rw [List.take_append_of_le_length (by omega)]
  rw [ge_at (by simp; omega), List.getElem_append_left e, ← ge_at e]
  exact this
 ·obtain rfl : i = L.length := by simp at hi; omega
  rw [List.take_left', ge_at (by simp)]
  ·simpa using hx
  ·rfl
theorem evI_grp {l : List Ce} {t : Nat} {L : List Ev} (hL : okE l.length L) (ht : ∀ u, (grp L).2 = some u → u < (t : Int)) : ∀ j, j ≤ l.length - 1 →
  okE l.length (L ++ evI l t j) ∧ (grp (L ++ evI l t j)).1 = (grp L).1 ++ (if actTo l (t : Int) j = [] then [] else [actTo l (t : Int) j]) ∧ (grp (L ++ evI l t j)).2 = (if actTo l (t : Int) j = [] then (grp L).2 else some (t : Int))
 | 0, _ => by simp [evI, actTo, hL]
 | j + 1, hj => by
  obtain ⟨h1, h2, h3⟩ := evI_grp hL ht j (by omega)
  rw [evI_succ]
  by_cases ha : actB (t : Int) (faceL l j) = true
  ·have e1 : actTo l (t : Int) (j + 1) = actTo l (t : Int) j ++ [(j : Int)] := by rw [actTo, if_pos ha]
   have ne : actTo l (t : Int) j ++ [(j : Int)] ≠ [] := by simp
   rw [if_pos ha, ← List.append_assoc, e1, grp_snoc, if_neg ne, if_neg ne]
   by_cases hn : actTo l (t : Int) j = []
   ·rw [if_pos hn] at h2 h3
    have hne : (grp (L ++ evI l t j)).2 ≠ some (t : Int) := fun e => by
     have := ht (t : Int) (by rw [← h3, e])
     omega
    refine ⟨okE_snoc h1 ⟨fun u hu => ?_, ⟨?_, ?_⟩, fun e => absurd e hne⟩, ?_, rfl⟩
    ·have := ht u (by rw [← h3, hu]); show u ≤ (t : Int); omega
    ·show (0 : Int) ≤ (j : Int); omega
    ·show (j : Int) + 2 ≤ (l.length : Int); omega
    ·rw [stepG, if_neg hne, h2, hn]
     simp
   ·rw [if_neg hn] at h2 h3
    refine ⟨okE_snoc h1 ⟨fun u hu => ?_, ⟨?_, ?_⟩, fun e hm => ?_⟩, ?_, rfl⟩
    ·rw [h3] at hu; have := Option.some.inj hu; show u ≤ (t : Int); omega
    ·show (0 : Int) ≤ (j : Int); omega
    ·show (j : Int) + 2 ≤ (l.length : Int); omega
    ·rw [h2] at hm
     have hm2 : (j : Int) ∈ actTo l (t : Int) j := by simpa using hm
     have := actTo_mem hm2
     omega
    ·rw [stepG, if_pos h3, h2]
     simp
  ·have e1 : actTo l (t : Int) (j + 1) = actTo l (t : Int) j := by rw [actTo, if_neg ha]
   rw [if_neg ha, e1]
   exact ⟨h1, h2, h3⟩
theorem evs_grp (l : List Ce) (a : Nat) : ∀ b, okE l.length (evs l a b) ∧ (grp (evs l a b)).1 = (tks l a b).map (fun (t : Nat) => actTo l (t : Int) (l.length - 1)) ∧ ∀ u, (grp (evs l a b)).2 = some u → u < (b : Int)
 | 0 => ⟨fun i hi => by simp [evs] at hi, rfl, fun u h => by simp [evs, grp] at h⟩
 | b + 1 => by
  obtain ⟨h1, h2, h3⟩ := evs_grp l a b
  rw [evs, tks]
  split
  ·obtain ⟨k1, k2, k3⟩ := evI_grp (t := b) h1 h3 (l.length - 1) (Nat.le_refl _)
   refine ⟨k1, ?_, fun u hu => ?_⟩
   ·rw [k2, h2]
    split
    ·rw [List.append_nil]
    ·rw [List.map_append]; rfl
   ·rw [k3] at hu
    split at hu
    ·have := h3 u hu; omega
    ·have := Option.some.inj hu; omega
  ·exact ⟨fun i hi => by simp at hi, rfl, fun u h => by simp [grp] at h⟩
theorem evI_len (l : List Ce) (t j : Nat) : (evI l t j).length ≤ j := by rw [evI, List.length_map]; exact actTo_len l t j
theorem evs_len (l : List Ce) (a : Nat) : ∀ b, (evs l a b).length ≤ b * (l.length - 1)
 | 0 => by simp [evs]
 | b + 1 => by
  rw [evs]
  split
  ·have := evs_len l a b
   have := evI_len l b (l.length - 1)
   rw [List.length_append, Nat.succ_mul]
   omega
  ·simp
def actN (L : Int) : Nat → Nat
 | 0 => 0
 | k + 1 => actN L k + (if actB (k : Int) L = true then 1 else 0)
theorem actN_pow {L : Int} (h : inR L 0 4 = true) : ((actN L 16 : Nat) : Int) = pow2 L := by
 rcases lvl5 h with rfl | rfl | rfl | rfl | rfl <;> decide
end Go.Proofs.Ytkendhkaheoinaa.U
set_option linter.unusedVariables false
set_option linter.unusedSimpArgs false
namespace Go.Proofs.Ytkendhkaheoinaa.U
open Go.RowKit Go.Lib Go.Proofs.YtkendhkaheoinaaW.PrintWords
open Go.Proofs.YtkendhkaheoinaaW.PrintLast Go.Proofs.YtkendhkaheoinaaW.PrintMore
theorem evF_snoc (L : List Ev) (t f : Int) : nums .i64 (evF (L ++ [⟨t, f⟩])) = nums .i64 (evF L) ++ [Value.int .i64 t, .int .i64 f] := by rw [evF_append]; simp [nums, evF]
end Go.Proofs.Ytkendhkaheoinaa.U
set_option linter.unusedVariables false
set_option linter.unusedSimpArgs false
namespace Go.Proofs.Ytkendhkaheoinaa.U
open Go.RowKit Go.Lib Go.Proofs.YtkendhkaheoinaaW.PrintWords
open Go.Proofs.YtkendhkaheoinaaW.PrintLast Go.Proofs.YtkendhkaheoinaaW.PrintMore
def u0 : Value := .slice none 0 0
structure GG (w : World) (lo T : Nat) (v : Value) (n : Nat) (xs : List Value) (gs : List (List Int)) : Prop where
 row : w.ownsRow lo 27 1 v n xs
 len : gs.length = n
 el : ∀ i, i < n → OI w lo (xs.getD i u0) (gs.getD i []).length (gs.getD i [])
 lt : ∀ i, i + 1 < n → ∀ b, (xs.getD i u0).ownBlock = some b → b < T
 la : ∀ b, 0 < n → (xs.getD (n - 1) u0).ownBlock = some b → T ≤ b
 top : T ≤ w.heap.size
section
variable {w w' : World} {lo T n : Nat} {v v1 : Value} {xs : List Value} {gs : List (List Int)}
theorem GG.xl (h : GG w lo T v n xs gs) : xs.length = n := by have := h.row.1; rwa [Nat.mul_one] at this
theorem GG.to (h : GG w lo T v n xs gs) (b : Bw w w') : GG w' lo T v n xs gs := ⟨pw_own_below h.row b.out, h.len, fun i hi => (h.el i hi).to b, h.lt, h.la, Nat.le_trans h.top b.size⟩
theorem GG.wi {a b : Nat} (h : GG w lo T v n xs gs) (k : Wi w w' a b) (hb : b ≤ lo) : GG w' lo T v n xs gs :=
 ⟨own_move h.row fun q hq => k.block q (own_lt h.row q hq) (by have := own_base h.row q hq; omega), h.len, fun i hi => ⟨own_move (h.el i hi).out fun q hq => k.block q (own_lt (h.el i hi).out q hq) (by have := own_base (h.el i hi).out q hq; omega)⟩, h.lt, h.la, Nat.le_trans h.top k.size⟩
theorem GG.nil (w : World) (lo : Nat) (v : Value) (h : w.ownsRow lo 27 1 v 0 []) : GG w lo 0 v 0 [] [] := ⟨h, rfl, fun i h => by omega, fun i h => by omega, fun b h => by omega, Nat.zero_le _⟩
theorem GG.push (h : GG w lo T v n xs gs) (o : w'.ownsRow lo 27 1 v1 (n + 1) (xs ++ [u0])) (hg : w.grownBy w' v.ownBlock) : GG w' lo w.heap.size v1 (n + 1) (xs ++ [u0]) (gs ++ [[]]) := by
 have hx := h.xl
 have hgl := h.len
 refine ⟨o, by simp [hgl], fun i hi => ?_, fun i hi b hb => ?_, fun b _ hb => ?_, hg.size⟩
 ·by_cases hc : i < n
  ·rw [List.getD_eq_getElem?_getD, List.getElem?_append_left (by omega), ← List.getD_eq_getElem?_getD]
   rw [show (gs ++ [([] : List Int)]).getD i [] = gs.getD i [] by rw [List.getD_eq_getElem?_getD, List.getElem?_append_left (by omega), ← List.getD_eq_getElem?_getD]]
   exact ⟨own_other (h.el i hc).out hg (own_type_ne (h.el i hc).out h.row (by decide))⟩
  ·obtain rfl : i = n := by omega
   rw [show (xs ++ [u0]).getD i u0 = u0 by rw [List.getD_eq_getElem?_getD, List.getElem?_append_right (by omega), hx]; simp,
    show (gs ++ [([] : List Int)]).getD i [] = [] by rw [List.getD_eq_getElem?_getD, List.getElem?_append_right (by omega), hgl]; simp]
   exact ⟨own_nil _ _ _ _⟩
 ·have hc : i < n := by omega
  rw [List.getD_eq_getElem?_getD, List.getElem?_append_left (by omega), ← List.getD_eq_getElem?_getD] at hb
  exact own_lt (h.el i hc).out b hb
 ·rw [show n + 1 - 1 = n by omega, show (xs ++ [u0]).getD n u0 = u0 by rw [List.getD_eq_getElem?_getD, List.getElem?_append_right (by omega), hx]; simp] at hb
  simp [u0, Value.ownBlock] at hb
theorem GG.form (h : GG w lo T v n xs gs) (hn : 0 < n) : ∃ g c, v = .slice (some ⟨g, 0, none⟩) n c ∧ ∀ i, i < n → w.cell? ⟨g, i, none⟩ = some (xs.getD i u0) ∧ w.frozen? ⟨g, i, none⟩ = false := by
 rcases h.row.2 with ⟨_, h0⟩ | ⟨g, cap, cur, e, hb, hh, _⟩
 ·omega
 ·subst e
  refine ⟨g, cap, rfl, fun i hi => ⟨?_, blk_frozen hh i⟩⟩
  have hx := h.xl
  have hc := h.row.cells (g := g) rfl i (xs.getD i u0) (by rw [List.getD_eq_getElem?_getD, List.getElem?_eq_getElem (by omega)]; rfl)
  rwa [add_plain] at hc
theorem GG.sl {w : World} {lo T n : Nat} {v : Value} {xs : List Value} {gs : List (List Int)} (h : GG w lo T v n xs gs) : ∃ G c, v = .slice G n c ∧ ∀ i, i < n → ∃ ad, G = some ad ∧ w.cell? (ad.add i) = some (xs.getD i u0) := by
 rcases Nat.eq_zero_or_pos n with h0 | hn
 ·rcases h.row.2 with ⟨e, _⟩ | ⟨g, cap, cur, e, _⟩
  ·subst h0; exact ⟨none, 0, e, fun i hi => by omega⟩
  ·exact ⟨_, _, e, fun i hi => by omega⟩
 ·obtain ⟨g, c, rfl, hc⟩ := h.form hn
  refine ⟨_, c, rfl, fun i hi => ⟨_, rfl, ?_⟩⟩
  rw [add_plain]
  exact (hc i hi).1
theorem GG.ext {g c : Nat} {x1 : Value} {f : Int} (h : GG w lo T (.slice (some ⟨g, 0, none⟩) n c) n xs gs) (hn : 0 < n) (o : OI w' lo x1 (gs.getD (n - 1) [] ++ [f]).length (gs.getD (n - 1) [] ++ [f])) (hg : w.grownBy w' (xs.getD (n - 1) u0).ownBlock)
  (ha : x1.ownBlock = (xs.getD (n - 1) u0).ownBlock ∨ ∃ q, x1.ownBlock = some q ∧ w.heap.size ≤ q) : GG (w'.setCell ⟨g, n - 1, none⟩ x1) lo T (.slice (some ⟨g, 0, none⟩) n c) n (xs.set (n - 1) x1) (gs.set (n - 1) (gs.getD (n - 1) [] ++ [f])) := by
 have hx := h.xl
 have hgl := h.len
 have hrow : w'.ownsRow lo 27 1 (.slice (some ⟨g, 0, none⟩) n c) n xs := own_other h.row hg (own_type_ne h.row (h.el (n - 1) (by omega)).out (by decide))
 have hst := hrow.stored (n - 1) x1
 have key : ∀ (x : Value) (l : List Int), OI w' lo x l.length l → OI (w'.setCell ⟨g, n - 1, none⟩ x1) lo x l.length l := fun x l ho => ⟨own_other ho.out hst.2 (own_type_ne ho.out hrow (by decide))⟩
 refine ⟨hst.1, by simp [hgl], fun i hi => ?_, fun i hi b hb => ?_, fun b _ hb => ?_, ?_⟩
 ·by_cases hc : i = n - 1
  ·subst hc
   rw [show (xs.set (n - 1) x1).getD (n - 1) u0 = x1 by rw [List.getD_eq_getElem?_getD, List.getElem?_set_self (by omega)]; rfl, show (gs.set (n - 1) (gs.getD (n - 1) [] ++ [f])).getD (n - 1) [] = gs.getD (n - 1) [] ++ [f] by rw [List.getD_eq_getElem?_getD, List.getElem?_set_self (by omega)]; rfl]
   exact key _ _ o
  ·rw [show (xs.set (n - 1) x1).getD i u0 = xs.getD i u0 by rw [List.getD_eq_getElem?_getD, List.getElem?_set_ne (by omega), ← List.getD_eq_getElem?_getD], show (gs.set (n - 1) (gs.getD (n - 1) [] ++ [f])).getD i [] = gs.getD i [] by rw [List.getD_eq_getElem?_getD, List.getElem?_set_ne (by omega), ← List.getD_eq_getElem?_getD]]
   refine key _ _ ⟨own_other (h.el i hi).out hg ?_⟩
   cases hq : (xs.getD i u0).ownBlock with
   | none => exact .inl rfl
   | some q =>
    refine .inr fun e => ?_
    have h1 := h.lt i (by omega) q hq
    have h2 := h.la q hn e.symm
    omega
 ·rw [show (xs.set (n - 1) x1).getD i u0 = xs.getD i u0 by rw [List.getD_eq_getElem?_getD, List.getElem?_set_ne (by omega), ← List.getD_eq_getElem?_getD]] at hb
  exact h.lt i hi b hb
 ·rw [show (xs.set (n - 1) x1).getD (n - 1) u0 = x1 by rw [List.getD_eq_getElem?_getD, List.getElem?_set_self (by omega)]; rfl] at hb
  rcases ha with e | ⟨q, e, hq⟩
  ·exact h.la b hn (by rw [← e]; exact hb)
  ·rw [hb] at e
   have := Option.some.inj e
   have := h.top
   omega
 ·have h1 := h.top
  have h2 := hg.size
  have : (w'.setCell ⟨g, n - 1, none⟩ x1).heap.size = w'.heap.size := by simp [World.setCell]
  omega
end
theorem row_cell {w : World} {lo g c n i : Nat} {xs : List Value} {x : Value} (h : w.ownsRow lo 27 1 (.slice (some ⟨g, 0, none⟩) n c) n xs) (hi : i < n) (hx : xs.getD i u0 = x) : w.cell? ⟨g, i, none⟩ = some x ∧ w.frozen? ⟨g, i, none⟩ = false := by
 have hl : xs.length = n := by have := h.1; rwa [Nat.mul_one] at this
 have hc := h.cells (g := g) rfl i x (by rw [← hx, List.getD_eq_getElem?_getD, List.getElem?_eq_getElem (by omega)]; rfl)
 rw [add_plain] at hc
 refine ⟨hc, ?_⟩
 rcases h.2 with ⟨h', _⟩ | ⟨g', cap', cur, h', _, hh, _⟩
 ·cases h'
 ·injection h' with h'
  injection h' with h'
  injection h' with h'
  subst h'
  exact blk_frozen hh i
theorem set_last : ∀ {gs : List (List Int)} (_ : gs ≠ []) {N : Nat} (_ : gs.length = N) (y : List Int), gs.dropLast ++ [y] = gs.set (N - 1) y
 | [], h, _, _, _ => absurd rfl h
 | [a], _, N, hN, y => by subst hN; rfl
 | a :: b :: l, _, N, hN, y => by
  have ih := set_last (gs := b :: l) (by simp) (N := N - 1) (by simp at hN ⊢; omega) y
  have : N - 1 = (N - 1 - 1) + 1 := by simp at hN; omega
  rw [this, List.set_cons_succ, ← ih]
  rfl
theorem slices_Index_no (A : Option Addr) (n c : Nat) (l : List Int) (x : Int) (w : World) (r : RI w A n l) (hx : x ∉ l) (hn : n ≤ 1000000) :
  Calls Try.prog 91 #[.slice A n c, .int .i64 x] w fun e w' => e = .returned (.int .i64 (-1)) ∧ w = w' := by
 have hl := r.len
 have HX := hid hx
 have HL := hid hl
 clear hx hl
 go_enter Try.func91, Try.ntmps91
 go_wp2
 go_loopw [8] (fun v8 wr => ∃ k : Nat, k ≤ n ∧ v8 = .int .i64 k ∧ w = wr) (fun v8 _ => n - (intOf v8).toNat)
 case atStart => exact ⟨0, by omega, rfl, rfl⟩
 case round =>
  obtain ⟨k, hk, rfl, rfl⟩ := hrel
  by_cases hlt : k < n
  ·have t1 : decide ((k : Int) < (n : Int)) = true := decide_eq_true (by omega)
   have e1 : IntKind.i64.wrap ((k : Int) + 1) = (k : Int) + 1 := i64w (by omega) (by omega)
   have i0 : (0 : Int) ≤ (k : Int) := by clear e1; omega
   have i1 : (k : Int) < (n : Int) := by clear e1; omega
   have hkk := hid (show k + 1 ≤ n ∧ n - (k + 1) < n - k by clear e1; omega)
   obtain ⟨ad, rfl, x1⟩ := r.nat k hlt
   have hne : (x == rd l (k : Int)) = false := by
    rw [beq_eq_false_iff_ne]
    intro e
    apply HX.out
    rw [e, rd_nat, List.getD_eq_getElem?_getD, List.getElem?_eq_getElem (by rw [HL.out]; exact hlt)]
    exact List.getElem_mem _
   go_wp2
   go_roundw
   case rel => exact ⟨k + 1, hkk.out.1, by go_num, by trivial⟩
   case measure => simp [intOf]; clear e1; omega
  ·obtain rfl : k = n := by omega
   have t1 : decide ((k : Int) < (k : Int)) = false := decide_eq_false (by omega)
   go_wp2
   go_ret
   exact ⟨rfl, rfl⟩
theorem contains_no (A : Option Addr) (n c : Nat) (l : List Int) (x : Int) (w : World) (r : RI w A n l) (hx : x ∉ l) (hn : n ≤ 1000000) :
  Calls Try.prog 59 #[.slice A n c, .int .i64 x] w fun e w' => e = .returned (.bool false) ∧ w = w' := by
 go_enter Try.func59, Try.ntmps59
 go_wp2_with fail
 refine (slices_Index_no A n c l x _ r hx hn).mono ?_
 rintro e w1 ⟨rfl, rfl⟩
 go_wp2
 go_ret
 exact ⟨rfl, rfl⟩
theorem info_sl : (Try.prog.info? 27).map (fun i => (i.zero, i.size, i.bytes)) = some (some (.slice none 0 0), 1, 24) := by kernel_rfl
set_option maxHeartbeats 8000000 in
set_option maxRecDepth 100000 in
theorem impl_groups (ro : Int) (A : Option Addr) (n c : Nat) (B : Option Addr) (m d : Nat) (L : List Ev) (w : World) (r : EvR w B m L) (hok : okE n L) (h1 : 1 ≤ n) (hn : n ≤ 128) (hm : m ≤ 4096) :
  Calls Try.prog 26 #[.agg #[.int .i64 ro, .slice A n c], .slice B m d] w fun e w' => ∃ v xs T, e = .returned (.tuple #[v, .bool true]) ∧ GG w' w.heap.size T v (grp L).1.length xs (grp L).1 ∧ Bw w w' := by
 have b0 := Bw.box1 w (.cells #[.int .i64 ro, .slice A n c] 26)
 have g0 := box_cell (Bw.refl (w.alloc (.cells #[.int .i64 ro, .slice A n c] 26))) 0
 have g1 := box_cell (Bw.refl (w.alloc (.cells #[.int .i64 ro, .slice A n c] 26))) 1
 simp only [List.getElem?_toArray, List.getElem?_cons_zero, List.getElem?_cons_succ] at g0 g1
 have hk0 := heap_alloc_new w (.cells #[.int .i64 ro, .slice A n c] 26 (0, 0))
 have HOK := hid hok
 have hlen := r.len
 have HLN := hid hlen
 have bL := Bw.box1 (w.alloc (.cells #[.int .i64 ro, .slice A n c] 26)) (.cells #[] 27)
 have o0 := GG.nil _ w.heap.size _ (World.ownsRow_lit (base := w.heap.size) (e := 27) (size := 1) (w.alloc (.cells #[.int .i64 ro, .slice A n c] 26)) #[] 0 b0.size (by simp [maxLen]) (by simp))
 rw [show (w.alloc (.cells #[.int .i64 ro, .slice A n c] 26)).heap.size = w.heap.size + 1 by simp] at o0
 have HK0 := hid ((bL.out.block _ (blk_lt hk0)).trans hk0)
 have HB0 := hid (b0.trans bL)
 have HO0 := hid o0
 have hwr : IntKind.i64.wrap ((n : Int) - 2) = (n : Int) - 2 := i64w (by omega) (by omega)
 have HWR := hid hwr
 clear hk0 b0 bL o0 hok hlen g0 g1 hwr
 go_enter Try.func26, Try.ntmps26
 go_upto_region 2 with fail
 generalize ((w.alloc (.cells #[.int .i64 ro, .slice A n c] 26)).alloc (.cells #[] 27)) = W1 at *
 go_wp2
 go_loopw [6, 13] (fun v6 v13 wr => ∃ (j : Nat) (xs : List Value) (T : Nat), j ≤ m ∧ v13 = .int .i64 j ∧ Hid (GG wr w.heap.size T v6 (grp (L.take j)).1.length xs (grp (L.take j)).1) ∧ Hid (Bw w wr) ∧ Hid (wr.heap[w.heap.size]? = some (.cells #[.int .i64 ro, .slice A n c] 26 (0, 0)))) (fun _ v13 _ => m - (intOf v13).toNat)
 case atStart => exact ⟨0, [], 0, by omega, rfl, HO0, HB0, HK0⟩
 case round =>
  obtain ⟨j, xs, T, hj, rfl, hO, hB, hK⟩ := hrel
  have k0 : wr.cell? ⟨w.heap.size, 0, none⟩ = some (.int .i64 ro) := (blk_cell hK.out 0).trans rfl
  have k1 : wr.cell? ⟨w.heap.size, 1, none⟩ = some (.slice A n c) := (blk_cell hK.out 1).trans rfl
  by_cases hlt : j < m
  ·have t1 : decide ((j : Int) < (m : Int)) = true := decide_eq_true (by omega)
   have e1 : IntKind.i64.wrap ((j : Int) + 1) = (j : Int) + 1 := i64w (by omega) (by omega)
   have i0 : (0 : Int) ≤ (j : Int) := by clear e1; omega
   have i1 : (j : Int) < (m : Int) := by clear e1; omega
   obtain ⟨ad, rfl, x1, x2⟩ := (r.to hB.out).at j hlt
   have hG : ge L j = ge L j := rfl
   obtain ⟨q, hq⟩ : ∃ q, (ge L j).q = q := ⟨_, rfl⟩
   obtain ⟨f, hf⟩ : ∃ f, (ge L j).v = f := ⟨_, rfl⟩
   rw [hq] at x1
   rw [hf] at x2
   obtain ⟨hle, hfr, hnm⟩ := HOK.out j (by rw [HLN.out]; exact hlt)
   rw [hq] at hle hnm
   rw [hf] at hfr hnm
   have hstep : grp (L.take (j + 1)) = stepG (grp (L.take j)) ⟨q, f⟩ := by
    rw [grp_take (by rw [HLN.out]; exact hlt)]
    congr 1
    rw [← hq, ← hf]
   have hj1 := hid (show j + 1 ≤ m ∧ m - (j + 1) < m - j by clear e1; omega)
   have hgl := grp_len j L (by rw [HLN.out]; exact hj)
   obtain ⟨gs, hgs⟩ : ∃ gs, (grp (L.take j)).1 = gs := ⟨_, rfl⟩
   obtain ⟨p2, hp2⟩ : ∃ p2, (grp (L.take j)).2 = p2 := ⟨_, rfl⟩
   have hpp : grp (L.take j) = (gs, p2) := by rw [← hgs, ← hp2]
   rw [hgs] at hgl hO hnm
   rw [hpp] at hstep
   rw [hp2] at hle hnm
   have HSTEP := hid hstep
   have HGL := hid hgl
   have HR := hid (show inR f 0 ((n : Int) - 2) = true from inR_iff.2 (by clear e1; omega))
   have hprev : 0 < j → p2 = some (ge L (j - 1)).q := fun h0 => by
    have := grp_last (L := L) (i := j - 1) (by rw [HLN.out]; clear e1; omega)
    rw [show j - 1 + 1 = j by clear e1; omega, hp2] at this
    exact this
   have hne0 : 0 < j → gs ≠ [] := fun h0 => by
    have := grp_ne (L := L) (i := j - 1) (by rw [HLN.out]; clear e1; omega)
    rw [show j - 1 + 1 = j by clear e1; omega, hgs] at this
    exact this
   obtain ⟨N, hN⟩ : ∃ N, gs.length = N := ⟨_, rfl⟩
   rw [hN] at hO
   obtain ⟨G, cG, rfl, -⟩ := hO.out.sl
   have hb0 := Bw.box1 wr (.cells #[.int .i64 q, .int .i64 f] 40)
   have y0 := box_cell (Bw.refl (wr.alloc (.cells #[.int .i64 q, .int .i64 f] 40))) 0
   have y1 := box_cell (Bw.refl (wr.alloc (.cells #[.int .i64 q, .int .i64 f] 40))) 1
   simp only [List.getElem?_toArray, List.getElem?_cons_zero, List.getElem?_cons_succ] at y0 y1
   have hO1 := hid (hO.out.to hb0)
   have hB1 := hid (hB.out.trans hb0)
   have hK1 := hid ((hb0.out.block _ (blk_lt hK.out)).trans hK.out)
   have hNm : N ≤ 4096 := by rw [← hN]; have := HGL.out.1; clear e1; omega
   have HNM := hid hNm
   have HN := hid hN
   have HGE := hid (show w.heap.size ≤ wr.heap.size from hB.out.size)
   replace k0 := pw_cell_below hb0.out k0
   replace k1 := pw_cell_below hb0.out k1
   clear hstep hgl hpp hgs hq hf hNm hN hO hB hK
   by_cases hj0 : j = 0
   ·have u1 : decide ((j : Int) > 0) = false := decide_eq_false (by clear e1; omega)
    have u2 : decide ((0 : Int) < (j : Int)) = false := decide_eq_false (by clear e1; omega)
    have u3 : ((j : Int) == 0) = true := by simp [hj0]
    have u4 : decide (0 < j) = false := decide_eq_false (by clear e1; omega)
    have hp0 : p2 ≠ some q := fun e => by
     rw [hj0] at hp2
     simp [grp, e] at hp2
    clear hb0 hne0 hprev hle hnm hj0
    obtain ⟨Wv, hWv⟩ : ∃ Wv, wr.alloc (.cells #[.int .i64 q, .int .i64 f] 40) = Wv := ⟨_, rfl⟩
    have HE1 := hid (heap_alloc_new wr (.cells #[.int .i64 q, .int .i64 f] 40 (0, 0)))
    have hgb : wr.heap.size + 1 ≤ (wr.alloc (.cells #[.int .i64 q, .int .i64 f] 40)).heap.size := by simp
    rw [hWv] at y0 y1 k0 k1 hO1 hB1 hK1 HE1 hgb
    go_wp2
    clear x1 x2 hWv
    have hwr := HWR.out
    go_quiet ((go_at_call 35; exact Calls.quiet_of_same ((toBool (within _ _ _ _) HR.out).mono fun e w' h => ⟨h.1, h.2.symm⟩)))
    have bq1 : Bw Wv (Wv.drewN nq) := Bw.drawn ⟨⟨nq, rfl⟩⟩
    replace y0 := pw_cell_below bq1.out y0
    skip
    replace hO1 := hid (hO1.out.to bq1)
    replace hB1 := hid (hB1.out.trans bq1)
    replace hK1 := hid ((bq1.out.block _ (blk_lt hK1.out)).trans hK1.out)
    replace HE1 := hid ((bq1.out.block _ (blk_lt HE1.out)).trans HE1.out)
    replace hgb := Nat.le_trans hgb bq1.size
    clear bq1 k0 k1 y1 hwr
    generalize Wv.drewN nq = Wu at *
    go_wp2
    go_quiet (fail)
    have bq1 : Bw Wu (Wu.drewN nq) := Bw.drawn ⟨⟨nq, rfl⟩⟩
    replace hO1 := hid (hO1.out.to bq1)
    replace hB1 := hid (hB1.out.trans bq1)
    replace hK1 := hid ((bq1.out.block _ (blk_lt hK1.out)).trans hK1.out)
    replace HE1 := hid ((bq1.out.block _ (blk_lt HE1.out)).trans HE1.out)
    replace hgb := Nat.le_trans hgb bq1.size
    clear bq1 y0
    generalize Wu.drewN nq = Wt at *
    generalize wr.heap.size = gb at *
    go_upto_region 9 with (at_builtin; refine print_append (w0 := w) w.heap.size rfl _ _ 52 27 (.slice none 0 0) 24 rfl Try.underlying52 info_sl rfl (by decide) (.slice G N cG) xs u0 rfl rfl rfl (by rw [hO1.out.xl]; exact hO1.out.row) hB1.out.out hB1.out.size (by rw [hO1.out.xl]; have := HNM.out; clear e1; omega) ?_; intro v1 w3 hown1 hB3 hg1 had; clear had)
    have hO3 := hO1.out.push (by rw [List.length_append, hO1.out.xl] at hown1; exact hown1) hg1
    have hK3 := hid (blk_grown hK1.out hg1 (own_ne hO1.out.row hK1.out (by decide)))
    have HE3 := hid (blk_grown HE1.out hg1 (own_ne hO1.out.row HE1.out (by decide)))
    have hW3 := hid (show Bw w w3 from ⟨hB3⟩)
    have hnot : f ∉ (gs ++ [([] : List Int)]).getD (N + 1 - 1) [] := by rw [← HN.out]; simp
    have hnext : (grp (L.take (j + 1))).1 = (gs ++ [([] : List Int)]).set (N + 1 - 1) ((gs ++ [([] : List Int)]).getD (N + 1 - 1) [] ++ [f]) := by rw [HSTEP.out, stepG, if_neg hp0, ← HN.out]; simp
    obtain ⟨N2, hN2⟩ : ∃ N2, N + 1 = N2 := ⟨_, rfl⟩
    have hb2 : 0 < N2 ∧ N2 ≤ 4097 := by have := HNM.out; clear e1; omega
    rw [hN2] at hO3 hnot hnext
    have HLN2 := hid (show ((gs ++ [([] : List Int)]).getD (N2 - 1) []).length ≤ 4096 by rw [← hN2, ← HN.out]; simp)
    generalize gs ++ [([] : List Int)] = gq at *
    generalize xs ++ [u0] = xq at *
    generalize Wt.heap.size = T2 at *
    clear hN2 hO1 hB1 hK1 HE1 hg1 hown1 hB3 hp0 HN HNM HSTEP HGL
    obtain ⟨gv, c2, rfl, hc⟩ := hO3.form hb2.1
    have hN63 : N2 ≤ 9223372036854775807 := by have := hb2.2; clear e1; omega
    have hN0 : 0 < N2 := hb2.1
    obtain ⟨hc1, hf1⟩ := hc (N2 - 1) (by clear e1; omega)
    have hel := hO3.el (N2 - 1) (by clear e1; omega)
    obtain ⟨xv, hxv⟩ : ∃ xv, xq.getD (N2 - 1) u0 = xv := ⟨_, rfl⟩
    obtain ⟨gl, hgl2⟩ : ∃ gl, gq.getD (N2 - 1) [] = gl := ⟨_, rfl⟩
    rw [hxv, hgl2] at hel
    rw [hxv] at hc1
    rw [hgl2] at hnot hnext
    obtain ⟨nf, hnf⟩ : ∃ nf, gl.length = nf := ⟨_, rfl⟩
    have HNF := hid hnf
    rw [hnf] at hel
    obtain ⟨F, cf, rfl, hF⟩ := hel.reads
    have hlv : nf ≤ 4096 := by
     rw [← hnf, ← hgl2]
     exact HLN2.out
    have HLV := hid hlv
    have HXV := hid hxv
    have HGL2 := hid hgl2
    have HNX := hid hnext
    have HNT := hid hnot
    have HEL := hid hel
    have HO3 := hid hO3
    have e5 : IntKind.i64.wrap ((N2 : Int) - 1) = (N2 : Int) - 1 := i64w (by clear e1; omega) (by clear e1; omega)
    have i4 : (0 : Int) ≤ (N2 : Int) - 1 := by clear e1 e5; omega
    have i5 : (N2 : Int) - 1 < (N2 : Int) := by clear e1 e5; omega
    have i6 : (1 : Int) ≤ (N2 : Int) := by clear e1 e5; omega
    have z1 : w3.cell? ⟨gb, 1, none⟩ = some (.int .i64 f) := (blk_cell HE3.out 1).trans rfl
    clear hc hxv hgl2 hnext hnot hel hO3 hnf hlv
    clear hp2 hb2 hfr hF hgb
    go_wp2
    go_quiet ((go_at_call 59; exact Calls.quiet_of_same ((contains_no F nf cf gl f _ (HEL.out.ri.to (Bw.drawn ⟨⟨_, rfl⟩⟩)) HNT.out (by have := HLV.out; clear e1 e5; omega)).mono fun e w' h => ⟨h.1, h.2.symm⟩)))
    have bq1 : Bw w3 (w3.drewN nq) := Bw.drawn ⟨⟨nq, rfl⟩⟩
    have hc2 := pw_cell_below bq1.out hc1
    have z2 := pw_cell_below bq1.out z1
    replace HO3 := hid (HO3.out.to bq1)
    replace HEL := hid (HEL.out.to bq1)
    replace hW3 := hid (hW3.out.trans bq1)
    replace hK3 := hid ((bq1.out.block _ (blk_lt hK3.out)).trans hK3.out)
    have HE4 := hid ((bq1.out.block _ (blk_lt HE3.out)).trans HE3.out)
    clear bq1 hc1 z1 hf1 HE3
    generalize w3.drewN nq = w4 at *
    go_upto_region 12 with fail
    have bD : Bw w4 (w4.drewN 1) := Bw.drawn ⟨⟨1, rfl⟩⟩
    refine start_ (n := 12) (S := fun w' => w'.cell? ⟨gv, N2 - 1, none⟩ = some (.slice F nf cf) ∧ w'.cell? ⟨gb, 1, none⟩ = some (.int .i64 f)) (ds := [11]) #[false, false, false, false, false, false, false, false, false, false, false, false] (by kernel_rfl) rfl rfl ⟨hc2, z2⟩ (fun hHeld => ?_)
    refine pq_ (i := 0) (N := (some 67)) (v := ?_) (a' := ?_) rfl rfl (by kernel_rfl) (fun _ _ _ h => h) (Or.inl ⟨by rfl, ?_⟩) ?_ ?_
    rotate_left; (intro w'; go_simp; with_reducible rfl); rotate_left; (simp only [Act.put, s1_, s2_, s3_, i64_w, i32_w]; rfl)
    refine pq_ (i := 1) (N := (some 68)) (v := ?_) (a' := ?_) rfl rfl (by kernel_rfl) (fun _ _ _ h => h) (Or.inl ⟨by rfl, ?_⟩) ?_ ?_
    rotate_left; (intro w'; go_simp; with_reducible rfl); rotate_left; (simp only [Act.put, s1_, s2_, s3_, i64_w, i32_w]; rfl)
    refine pq_ (i := 2) (N := (some 69)) (v := ?_) (a' := ?_) rfl rfl (by kernel_rfl) (fun _ _ _ h => h) (Or.inl ⟨by rfl, ?_⟩) ?_ ?_
    rotate_left; (intro w'; go_simp; with_reducible rfl); rotate_left; (simp only [Act.put, s1_, s2_, s3_, i64_w, i32_w]; rfl)
    refine pq_ (i := 3) (N := (some 70)) (v := ?_) (a' := ?_) rfl rfl (by kernel_rfl) (fun _ _ _ h => h) (Or.inl ⟨by rfl, ?_⟩) ?_ ?_
    rotate_left; (intro w'; go_simp; with_reducible rfl); rotate_left; (simp only [Act.put, s1_, s2_, s3_, i64_w, i32_w]; rfl)
    refine pq_ (i := 4) (N := (some 71)) (v := ?_) (a' := ?_) rfl rfl (by kernel_rfl) (fun _ _ _ h => h) (Or.inl ⟨by rfl, ?_⟩) ?_ ?_
    rotate_left; (intro w'; go_simp; with_reducible rfl); rotate_left; (simp only [Act.put, s1_, s2_, s3_, i64_w, i32_w]; rfl)
    refine tq_ (i := 5) (N := (some 72)) (v := ?_) (a' := ?_) rfl rfl (by kernel_rfl) (fun _ _ _ h => h) (Or.inl ⟨by rfl, ?_⟩) hHeld ?_ ?_
    rotate_left; (rintro w' ⟨s0, s1⟩; go_simp; with_reducible rfl); rotate_left; (simp only [Act.put, s1_, s2_, s3_, i64_w, i32_w]; rfl)
    refine pq_ (i := 6) (N := (some 73)) (v := ?_) (a' := ?_) rfl rfl (by kernel_rfl) (fun _ _ _ h => h) (Or.inl ⟨by rfl, ?_⟩) ?_ ?_
    rotate_left; (intro w'; go_simp; with_reducible rfl); rotate_left; (simp only [Act.put, s1_, s2_, s3_, i64_w, i32_w]; rfl)
    refine tq_ (i := 7) (N := (some 74)) (v := ?_) (a' := ?_) rfl rfl (by kernel_rfl) (fun _ _ _ h => h) (Or.inl ⟨by rfl, ?_⟩) hHeld ?_ ?_
    rotate_left; (rintro w' ⟨s0, s1⟩; go_simp; with_reducible rfl); rotate_left; (simp only [Act.put, s1_, s2_, s3_, i64_w, i32_w]; rfl)
    refine one_ (i := 8) (N := (some 75)) #[true, true, true, true, true, true, true, true, true, false, false, false] rfl rfl (by kernel_rfl) (by decide) (fun K hK => ?_)
    have bA : Bw w4 ((w4.drewN 1).alloc (.cells #[.int .i64 f] 3)) := bD.alloc _
    refine value_ (w1 := ?_) (v := ?_) (by rfl) rfl ?_ ?_
    rotate_left 2
    ·go_simp
     constructor
     ·rfl
     ·rfl
    refine hK.out _ _ ⟨pw_cell_below bA.out hc2, pw_cell_below bA.out z2⟩ (fun hHeld => ?_)
    clear hK K; refine norm_ (a' := ?_) ?_ ?_; rotate_left; (show Act.put _ (some 75) _ = _; simp only [Act.put, s1_, s2_, s3_, i64_w, i32_w]; rfl)
    refine one_ (i := 9) (N := (some 76)) #[true, true, true, true, true, true, true, true, true, true, false, false] rfl rfl (by kernel_rfl) (by decide) (fun K hK => ?_)
    refine step_append_cells (w0 := w) w.heap.size (by rfl) (.tmp 72) (.tmp 75) 27 3 (.int .i64 0) 1 8 rfl Try.underlying27 info_int rfl (by decide) (by decide) (.slice F nf cf) nf (nums .i64 gl) [.int .i64 f] rfl rfl rfl (by simp [Value.oneCell']) (HEL.out.to bD).out (hW3.out.trans bD).out (hW3.out.trans bD).size (by have := HLV.out; clear e1 e5; omega) ?_
    intro v1 w9 hown1 hB9 hg9 had9
    have o9 : OI w9 w.heap.size v1 (gl ++ [f]).length (gl ++ [f]) := ⟨by rw [nums_append, List.length_append, HNF.out]; exact hown1⟩
    have HV := HO3.out.to bD
    obtain ⟨gv_, c2_, ev_, hcv⟩ := HV.form hN0
    simp only [Value.slice.injEq, and_true, true_and, Option.some.injEq, Addr.mk.injEq] at ev_
    obtain ⟨rfl, rfl⟩ := ev_
    have hrow9 : w9.ownsRow w.heap.size 27 1 (.slice (some ⟨gv, 0, none⟩) N2 c2) N2 xq := own_other HV.row hg9 (own_type_ne HV.row (HEL.out.to bD).out (by decide))
    have hcc : w9.cell? ⟨gv, N2 - 1, none⟩ = some (.slice F nf cf) ∧ w9.frozen? ⟨gv, N2 - 1, none⟩ = false := row_cell hrow9 (by clear e1 e5; omega) HXV.out
    obtain ⟨sc, sf⟩ := hcc
    obtain ⟨F1, cf1, rfl, -⟩ := o9.reads
    have hx9 := HV.ext (x1 := .slice F1 (gl ++ [f]).length cf1) (f := f) hN0 (by rw [HGL2.out]; exact o9) (by rw [HXV.out]; exact hg9) (by rw [HXV.out]; exact had9)
    have HF9 := hid (show GG (w9.setCell ⟨gv, N2 - 1, none⟩ (.slice F1 (gl ++ [f]).length cf1)) w.heap.size T2 (.slice (some ⟨gv, 0, none⟩) N2 c2) (grp (L.take (j + 1))).1.length (xq.set (N2 - 1) (.slice F1 (gl ++ [f]).length cf1)) (grp (L.take (j + 1))).1 by rw [HNX.out, List.length_set, HV.len]; rw [HGL2.out] at hx9; exact hx9)
    have hgl9 : w.heap.size ≤ gv := own_base HV.row gv rfl
    have HB9 := hid (show Bw w (w9.setCell ⟨gv, N2 - 1, none⟩ (.slice F1 (gl ++ [f]).length cf1)) from bw_set ⟨hB9⟩ hgl9 _ _)
    have hk9 := blk_grown ((bD.out.block _ (blk_lt hK3.out)).trans hK3.out) hg9 (own_ne (HEL.out.to bD).out ((bD.out.block _ (blk_lt hK3.out)).trans hK3.out) (by decide))
    have hne9 := own_ne hrow9 hk9 (by decide)
    have HK9 := hid (show (w9.setCell ⟨gv, N2 - 1, none⟩ (.slice F1 (gl ++ [f]).length cf1)).heap[w.heap.size]? = some (.cells #[.int .i64 ro, .slice A n c] 26 (0, 0)) from (Below.heap_setCell w9 ⟨gv, N2 - 1, none⟩ _ w.heap.size (fun e => hne9 (by rw [e]; rfl))).trans hk9)
    obtain ⟨m9, hm9⟩ : ∃ m9, (gl ++ [f]).length = m9 := ⟨_, rfl⟩
    rw [hm9] at HF9 HB9 HK9 ⊢
    have he9 := blk_grown ((bD.out.block _ (blk_lt HE4.out)).trans HE4.out) hg9 (own_ne (HEL.out.to bD).out ((bD.out.block _ (blk_lt HE4.out)).trans HE4.out) (by decide))
    have zc : w9.cell? ⟨gb, 1, none⟩ = some (.int .i64 f) := (blk_cell he9 1).trans rfl
    clear o9 HV hcv hrow9 hx9 hgl9 hk9 hne9 hm9 hown1 hB9 hg9 had9 he9
    refine hK.out _ _ ⟨sc, zc⟩ (fun hHeld => ?_)
    clear hK K; refine norm_ (a' := ?_) ?_ ?_; rotate_left; (show Act.put _ (some 76) _ = _; simp only [Act.put, s1_, s2_, s3_, i64_w, i32_w]; rfl)
    refine pq_ (i := 10) (N := (some 77)) (v := ?_) (a' := ?_) rfl rfl (by kernel_rfl) (fun _ _ _ h => h) (Or.inl ⟨by rfl, ?_⟩) ?_ ?_
    rotate_left; (intro w'; go_simp; with_reducible rfl); rotate_left; (simp only [Act.put, s1_, s2_, s3_, i64_w, i32_w]; rfl)
    refine last_ (i := 11) (N := none) #[true, true, true, true, true, true, true, true, true, true, true, true] rfl rfl (by kernel_rfl) (by decide) (fun K hK => ?_)
    refine skip_ (w1 := ?_) (by rfl) rfl ?_ ?_
    rotate_left
    ·go_simp
     rfl
    refine hK.out _ _ ?_
    clear hK K
    refine done_ (by kernel_rfl) ?_
    go_wp2
    go_roundw
    case rel => exact ⟨j + 1, _, T2, hj1.out.1, by go_num, HF9, HB9, HK9⟩
    case measure => simp [intOf]; exact hj1.out.2
   ·have u1 : decide ((j : Int) > 0) = true := decide_eq_true (by clear e1; omega)
    have u2 : decide ((0 : Int) < (j : Int)) = true := decide_eq_true (by clear e1; omega)
    have u3 : ((j : Int) == 0) = false := by rw [beq_eq_false_iff_ne]; clear e1; omega
    have u4 : decide (0 < j) = true := decide_eq_true (by clear e1; omega)
    have e3 : IntKind.i64.wrap ((j : Int) - 1) = (j : Int) - 1 := i64w (by clear e1; omega) (by clear e1; omega)
    have i2 : (0 : Int) ≤ (j : Int) - 1 := by clear e1 e3; omega
    have i3 : (j : Int) - 1 < (m : Int) := by clear e1 e3; omega
    have hp1 := hprev (by clear e1 e3; omega)
    have hne1 := hne0 (by clear e1 e3; omega)
    obtain ⟨_, e_, x3, _⟩ := (r.to hB1.out).at (j - 1) (by clear e1 e3; omega)
    obtain rfl := Option.some.inj e_
    obtain ⟨q0, hq0⟩ : ∃ q0, (ge L (j - 1)).q = q0 := ⟨_, rfl⟩
    rw [hq0] at x3 hp1
    have hqq := hle _ hp1
    have u5 : decide (q < q0) = false := decide_eq_false (by clear e1 e3; omega)
    have hj0' : 0 < j := by clear e1 e3; omega
    clear hb0 hne0 hprev hle hq0 e_ hj0
    by_cases hqe : q = q0
    ·have u6 : (q != q0) = false := by simp [hqe]
     have hps : p2 = some q := by rw [hp1, hqe]
     have hnot0 := hnm hps
     clear hp1 hqq hqe hnm
     obtain ⟨Wv, hWv⟩ : ∃ Wv, wr.alloc (.cells #[.int .i64 q, .int .i64 f] 40) = Wv := ⟨_, rfl⟩
     have HE1 := hid (heap_alloc_new wr (.cells #[.int .i64 q, .int .i64 f] 40 (0, 0)))
     have hgb : wr.heap.size + 1 ≤ (wr.alloc (.cells #[.int .i64 q, .int .i64 f] 40)).heap.size := by simp
     rw [hWv] at y0 y1 k0 k1 hO1 hB1 hK1 HE1 hgb x3
     go_wp2
     clear x1 x2 hWv
     have hwr := HWR.out
     go_quiet ((go_at_call 35; exact Calls.quiet_of_same ((toBool (within _ _ _ _) HR.out).mono fun e w' h => ⟨h.1, h.2.symm⟩)))
     have bq1 : Bw Wv (Wv.drewN nq) := Bw.drawn ⟨⟨nq, rfl⟩⟩
     replace y0 := pw_cell_below bq1.out y0
     replace x3 := pw_cell_below bq1.out x3
     replace hO1 := hid (hO1.out.to bq1)
     replace hB1 := hid (hB1.out.trans bq1)
     replace hK1 := hid ((bq1.out.block _ (blk_lt hK1.out)).trans hK1.out)
     replace HE1 := hid ((bq1.out.block _ (blk_lt HE1.out)).trans HE1.out)
     replace hgb := Nat.le_trans hgb bq1.size
     clear bq1 k0 k1 y1 hwr
     generalize Wv.drewN nq = Wu at *
     go_wp2
     go_quiet (fail)
     have bq1 : Bw Wu (Wu.drewN nq) := Bw.drawn ⟨⟨nq, rfl⟩⟩
     replace hO1 := hid (hO1.out.to bq1)
     replace hB1 := hid (hB1.out.trans bq1)
     replace hK1 := hid ((bq1.out.block _ (blk_lt hK1.out)).trans hK1.out)
     replace HE1 := hid ((bq1.out.block _ (blk_lt HE1.out)).trans HE1.out)
     replace hgb := Nat.le_trans hgb bq1.size
     clear bq1 y0 x3
     generalize Wu.drewN nq = Wt at *
     generalize wr.heap.size = gb at *
     have hO3 := hO1.out
     have hK3 := hK1
     have HE3 := HE1
     have hW3 := hB1
     have hlast : gs.getLastD [] = gs.getD (N - 1) [] := by rw [List.getLastD_eq_getLast?, List.getLast?_eq_getElem?, List.getD_eq_getElem?_getD, HN.out]
     have hnot : f ∉ gs.getD (N - 1) [] := by rw [← hlast]; exact hnot0
     have hnext : (grp (L.take (j + 1))).1 = gs.set (N - 1) (gs.getD (N - 1) [] ++ [f]) := by
      rw [HSTEP.out, stepG, if_pos hps]
      show gs.dropLast ++ [gs.getLastD [] ++ [f]] = _
      rw [hlast]
      exact set_last hne1 HN.out _
     have hb2 : 0 < N ∧ N ≤ 4097 := by
      have := HNM.out
      have h0 : 0 < gs.length := List.length_pos_iff.2 hne1
      have := HN.out
      clear e1
      omega
     have HLN2 := hid (show (gs.getD (N - 1) []).length ≤ 4096 by rw [← hlast]; have := HGL.out.2; clear e1; omega)
     clear hO1 hB1 hK1 HE1 hps HN HNM HSTEP HGL hlast hnot0 hne1
     obtain ⟨gv, c2, ev_, hc⟩ := hO3.form hb2.1
     simp only [Value.slice.injEq, and_true, true_and] at ev_
     obtain ⟨rfl, rfl⟩ := ev_
     have hN63 : N ≤ 9223372036854775807 := by have := hb2.2; clear e1; omega
     have hN0 : 0 < N := hb2.1
     obtain ⟨hc1, hf1⟩ := hc (N - 1) (by clear e1; omega)
     have hel := hO3.el (N - 1) (by clear e1; omega)
     obtain ⟨xv, hxv⟩ : ∃ xv, xs.getD (N - 1) u0 = xv := ⟨_, rfl⟩
     obtain ⟨gl, hgl2⟩ : ∃ gl, gs.getD (N - 1) [] = gl := ⟨_, rfl⟩
     rw [hxv, hgl2] at hel
     rw [hxv] at hc1
     rw [hgl2] at hnot hnext
     obtain ⟨nf, hnf⟩ : ∃ nf, gl.length = nf := ⟨_, rfl⟩
     have HNF := hid hnf
     rw [hnf] at hel
     obtain ⟨F, cf, rfl, hF⟩ := hel.reads
     have hlv : nf ≤ 4096 := by
      rw [← hnf, ← hgl2]
      exact HLN2.out
     have HLV := hid hlv
     have HXV := hid hxv
     have HGL2 := hid hgl2
     have HNX := hid hnext
     have HNT := hid hnot
     have HEL := hid hel
     have HO3 := hid hO3
     have e5 : IntKind.i64.wrap ((N : Int) - 1) = (N : Int) - 1 := i64w (by clear e1; omega) (by clear e1; omega)
     have i4 : (0 : Int) ≤ (N : Int) - 1 := by clear e1 e5; omega
     have i5 : (N : Int) - 1 < (N : Int) := by clear e1 e5; omega
     have i6 : (1 : Int) ≤ (N : Int) := by clear e1 e5; omega
     have z1 : Wt.cell? ⟨gb, 1, none⟩ = some (.int .i64 f) := (blk_cell HE3.out 1).trans rfl
     clear hc hxv hgl2 hnext hnot hel hO3 hnf hlv
     clear hp2 hb2 hfr hF hgb
     go_wp2
     go_quiet ((go_at_call 59; exact Calls.quiet_of_same ((contains_no F nf cf gl f _ (HEL.out.ri.to (Bw.drawn ⟨⟨_, rfl⟩⟩)) HNT.out (by have := HLV.out; clear e1 e5; omega)).mono fun e w' h => ⟨h.1, h.2.symm⟩)))
     have bq1 : Bw Wt (Wt.drewN nq) := Bw.drawn ⟨⟨nq, rfl⟩⟩
     have hc2 := pw_cell_below bq1.out hc1
     have z2 := pw_cell_below bq1.out z1
     replace HO3 := hid (HO3.out.to bq1)
     replace HEL := hid (HEL.out.to bq1)
     replace hW3 := hid (hW3.out.trans bq1)
     replace hK3 := hid ((bq1.out.block _ (blk_lt hK3.out)).trans hK3.out)
     have HE4 := hid ((bq1.out.block _ (blk_lt HE3.out)).trans HE3.out)
     clear bq1 hc1 z1 hf1 HE3
     generalize Wt.drewN nq = w4 at *
     go_upto_region 12 with fail
     have bD : Bw w4 (w4.drewN 1) := Bw.drawn ⟨⟨1, rfl⟩⟩
     refine start_ (n := 12) (S := fun w' => w'.cell? ⟨gv, N - 1, none⟩ = some (.slice F nf cf) ∧ w'.cell? ⟨gb, 1, none⟩ = some (.int .i64 f)) (ds := [11]) #[false, false, false, false, false, false, false, false, false, false, false, false] (by kernel_rfl) rfl rfl ⟨hc2, z2⟩ (fun hHeld => ?_)
     refine pq_ (i := 0) (N := (some 67)) (v := ?_) (a' := ?_) rfl rfl (by kernel_rfl) (fun _ _ _ h => h) (Or.inl ⟨by rfl, ?_⟩) ?_ ?_
     rotate_left; (intro w'; go_simp; with_reducible rfl); rotate_left; (simp only [Act.put, s1_, s2_, s3_, i64_w, i32_w]; rfl)
     refine pq_ (i := 1) (N := (some 68)) (v := ?_) (a' := ?_) rfl rfl (by kernel_rfl) (fun _ _ _ h => h) (Or.inl ⟨by rfl, ?_⟩) ?_ ?_
     rotate_left; (intro w'; go_simp; with_reducible rfl); rotate_left; (simp only [Act.put, s1_, s2_, s3_, i64_w, i32_w]; rfl)
     refine pq_ (i := 2) (N := (some 69)) (v := ?_) (a' := ?_) rfl rfl (by kernel_rfl) (fun _ _ _ h => h) (Or.inl ⟨by rfl, ?_⟩) ?_ ?_
     rotate_left; (intro w'; go_simp; with_reducible rfl); rotate_left; (simp only [Act.put, s1_, s2_, s3_, i64_w, i32_w]; rfl)
     refine pq_ (i := 3) (N := (some 70)) (v := ?_) (a' := ?_) rfl rfl (by kernel_rfl) (fun _ _ _ h => h) (Or.inl ⟨by rfl, ?_⟩) ?_ ?_
     rotate_left; (intro w'; go_simp; with_reducible rfl); rotate_left; (simp only [Act.put, s1_, s2_, s3_, i64_w, i32_w]; rfl)
     refine pq_ (i := 4) (N := (some 71)) (v := ?_) (a' := ?_) rfl rfl (by kernel_rfl) (fun _ _ _ h => h) (Or.inl ⟨by rfl, ?_⟩) ?_ ?_
     rotate_left; (intro w'; go_simp; with_reducible rfl); rotate_left; (simp only [Act.put, s1_, s2_, s3_, i64_w, i32_w]; rfl)
     refine tq_ (i := 5) (N := (some 72)) (v := ?_) (a' := ?_) rfl rfl (by kernel_rfl) (fun _ _ _ h => h) (Or.inl ⟨by rfl, ?_⟩) hHeld ?_ ?_
     rotate_left; (rintro w' ⟨s0, s1⟩; go_simp; with_reducible rfl); rotate_left; (simp only [Act.put, s1_, s2_, s3_, i64_w, i32_w]; rfl)
     refine pq_ (i := 6) (N := (some 73)) (v := ?_) (a' := ?_) rfl rfl (by kernel_rfl) (fun _ _ _ h => h) (Or.inl ⟨by rfl, ?_⟩) ?_ ?_
     rotate_left; (intro w'; go_simp; with_reducible rfl); rotate_left; (simp only [Act.put, s1_, s2_, s3_, i64_w, i32_w]; rfl)
     refine tq_ (i := 7) (N := (some 74)) (v := ?_) (a' := ?_) rfl rfl (by kernel_rfl) (fun _ _ _ h => h) (Or.inl ⟨by rfl, ?_⟩) hHeld ?_ ?_
     rotate_left; (rintro w' ⟨s0, s1⟩; go_simp; with_reducible rfl); rotate_left; (simp only [Act.put, s1_, s2_, s3_, i64_w, i32_w]; rfl)
     refine one_ (i := 8) (N := (some 75)) #[true, true, true, true, true, true, true, true, true, false, false, false] rfl rfl (by kernel_rfl) (by decide) (fun K hK => ?_)
     have bA : Bw w4 ((w4.drewN 1).alloc (.cells #[.int .i64 f] 3)) := bD.alloc _
     refine value_ (w1 := ?_) (v := ?_) (by rfl) rfl ?_ ?_
     rotate_left 2
     ·go_simp
      constructor
      ·rfl
      ·rfl
     refine hK.out _ _ ⟨pw_cell_below bA.out hc2, pw_cell_below bA.out z2⟩ (fun hHeld => ?_)
     clear hK K; refine norm_ (a' := ?_) ?_ ?_; rotate_left; (show Act.put _ (some 75) _ = _; simp only [Act.put, s1_, s2_, s3_, i64_w, i32_w]; rfl)
     refine one_ (i := 9) (N := (some 76)) #[true, true, true, true, true, true, true, true, true, true, false, false] rfl rfl (by kernel_rfl) (by decide) (fun K hK => ?_)
     refine step_append_cells (w0 := w) w.heap.size (by rfl) (.tmp 72) (.tmp 75) 27 3 (.int .i64 0) 1 8 rfl Try.underlying27 info_int rfl (by decide) (by decide) (.slice F nf cf) nf (nums .i64 gl) [.int .i64 f] rfl rfl rfl (by simp [Value.oneCell']) (HEL.out.to bD).out (hW3.out.trans bD).out (hW3.out.trans bD).size (by have := HLV.out; clear e1 e5; omega) ?_
     intro v1 w9 hown1 hB9 hg9 had9
     have o9 : OI w9 w.heap.size v1 (gl ++ [f]).length (gl ++ [f]) := ⟨by rw [nums_append, List.length_append, HNF.out]; exact hown1⟩
     have HV := HO3.out.to bD
     obtain ⟨gv_, c2_, ev_, hcv⟩ := HV.form hN0
     simp only [Value.slice.injEq, and_true, true_and, Option.some.injEq, Addr.mk.injEq] at ev_
     obtain ⟨rfl, rfl⟩ := ev_
     have hrow9 : w9.ownsRow w.heap.size 27 1 (.slice (some ⟨gv, 0, none⟩) N cG) N xs := own_other HV.row hg9 (own_type_ne HV.row (HEL.out.to bD).out (by decide))
     have hcc : w9.cell? ⟨gv, N - 1, none⟩ = some (.slice F nf cf) ∧ w9.frozen? ⟨gv, N - 1, none⟩ = false := row_cell hrow9 (by clear e1 e5; omega) HXV.out
     obtain ⟨sc, sf⟩ := hcc
     obtain ⟨F1, cf1, rfl, -⟩ := o9.reads
     have hx9 := HV.ext (x1 := .slice F1 (gl ++ [f]).length cf1) (f := f) hN0 (by rw [HGL2.out]; exact o9) (by rw [HXV.out]; exact hg9) (by rw [HXV.out]; exact had9)
     have HF9 := hid (show GG (w9.setCell ⟨gv, N - 1, none⟩ (.slice F1 (gl ++ [f]).length cf1)) w.heap.size T (.slice (some ⟨gv, 0, none⟩) N cG) (grp (L.take (j + 1))).1.length (xs.set (N - 1) (.slice F1 (gl ++ [f]).length cf1)) (grp (L.take (j + 1))).1 by rw [HNX.out, List.length_set, HV.len]; rw [HGL2.out] at hx9; exact hx9)
     have hgl9 : w.heap.size ≤ gv := own_base HV.row gv rfl
     have HB9 := hid (show Bw w (w9.setCell ⟨gv, N - 1, none⟩ (.slice F1 (gl ++ [f]).length cf1)) from bw_set ⟨hB9⟩ hgl9 _ _)
     have hk9 := blk_grown ((bD.out.block _ (blk_lt hK3.out)).trans hK3.out) hg9 (own_ne (HEL.out.to bD).out ((bD.out.block _ (blk_lt hK3.out)).trans hK3.out) (by decide))
     have hne9 := own_ne hrow9 hk9 (by decide)
     have HK9 := hid (show (w9.setCell ⟨gv, N - 1, none⟩ (.slice F1 (gl ++ [f]).length cf1)).heap[w.heap.size]? = some (.cells #[.int .i64 ro, .slice A n c] 26 (0, 0)) from (Below.heap_setCell w9 ⟨gv, N - 1, none⟩ _ w.heap.size (fun e => hne9 (by rw [e]; rfl))).trans hk9)
     obtain ⟨m9, hm9⟩ : ∃ m9, (gl ++ [f]).length = m9 := ⟨_, rfl⟩
     rw [hm9] at HF9 HB9 HK9 ⊢
     have he9 := blk_grown ((bD.out.block _ (blk_lt HE4.out)).trans HE4.out) hg9 (own_ne (HEL.out.to bD).out ((bD.out.block _ (blk_lt HE4.out)).trans HE4.out) (by decide))
     have zc : w9.cell? ⟨gb, 1, none⟩ = some (.int .i64 f) := (blk_cell he9 1).trans rfl
     clear o9 HV hcv hrow9 hx9 hgl9 hk9 hne9 hm9 hown1 hB9 hg9 had9 he9
     refine hK.out _ _ ⟨sc, zc⟩ (fun hHeld => ?_)
     clear hK K; refine norm_ (a' := ?_) ?_ ?_; rotate_left; (show Act.put _ (some 76) _ = _; simp only [Act.put, s1_, s2_, s3_, i64_w, i32_w]; rfl)
     refine pq_ (i := 10) (N := (some 77)) (v := ?_) (a' := ?_) rfl rfl (by kernel_rfl) (fun _ _ _ h => h) (Or.inl ⟨by rfl, ?_⟩) ?_ ?_
     rotate_left; (intro w'; go_simp; with_reducible rfl); rotate_left; (simp only [Act.put, s1_, s2_, s3_, i64_w, i32_w]; rfl)
     refine last_ (i := 11) (N := none) #[true, true, true, true, true, true, true, true, true, true, true, true] rfl rfl (by kernel_rfl) (by decide) (fun K hK => ?_)
     refine skip_ (w1 := ?_) (by rfl) rfl ?_ ?_
     rotate_left
     ·go_simp
      rfl
     refine hK.out _ _ ?_
     clear hK K
     refine done_ (by kernel_rfl) ?_
     go_wp2
     go_roundw
     case rel => exact ⟨j + 1, _, T, hj1.out.1, by go_num, HF9, HB9, HK9⟩
     case measure => simp [intOf]; exact hj1.out.2
    ·have u6 : (q != q0) = true := by simp [hqe]
     have hp0 : p2 ≠ some q := fun e => by rw [e] at hp1; exact hqe (Option.some.inj hp1)
     clear hp1 hqq hqe hnm
     obtain ⟨Wv, hWv⟩ : ∃ Wv, wr.alloc (.cells #[.int .i64 q, .int .i64 f] 40) = Wv := ⟨_, rfl⟩
     have HE1 := hid (heap_alloc_new wr (.cells #[.int .i64 q, .int .i64 f] 40 (0, 0)))
     have hgb : wr.heap.size + 1 ≤ (wr.alloc (.cells #[.int .i64 q, .int .i64 f] 40)).heap.size := by simp
     rw [hWv] at y0 y1 k0 k1 hO1 hB1 hK1 HE1 hgb x3
     go_wp2
     clear x1 x2 hWv
     have hwr := HWR.out
     go_quiet ((go_at_call 35; exact Calls.quiet_of_same ((toBool (within _ _ _ _) HR.out).mono fun e w' h => ⟨h.1, h.2.symm⟩)))
     have bq1 : Bw Wv (Wv.drewN nq) := Bw.drawn ⟨⟨nq, rfl⟩⟩
     replace y0 := pw_cell_below bq1.out y0
     replace x3 := pw_cell_below bq1.out x3
     replace hO1 := hid (hO1.out.to bq1)
     replace hB1 := hid (hB1.out.trans bq1)
     replace hK1 := hid ((bq1.out.block _ (blk_lt hK1.out)).trans hK1.out)
     replace HE1 := hid ((bq1.out.block _ (blk_lt HE1.out)).trans HE1.out)
     replace hgb := Nat.le_trans hgb bq1.size
     clear bq1 k0 k1 y1 hwr
     generalize Wv.drewN nq = Wu at *
     go_wp2
     go_quiet (fail)
     have bq1 : Bw Wu (Wu.drewN nq) := Bw.drawn ⟨⟨nq, rfl⟩⟩
     replace hO1 := hid (hO1.out.to bq1)
     replace hB1 := hid (hB1.out.trans bq1)
     replace hK1 := hid ((bq1.out.block _ (blk_lt hK1.out)).trans hK1.out)
     replace HE1 := hid ((bq1.out.block _ (blk_lt HE1.out)).trans HE1.out)
     replace hgb := Nat.le_trans hgb bq1.size
     clear bq1 y0 x3
     generalize Wu.drewN nq = Wt at *
     generalize wr.heap.size = gb at *
     go_upto_region 9 with (at_builtin; refine print_append (w0 := w) w.heap.size rfl _ _ 52 27 (.slice none 0 0) 24 rfl Try.underlying52 info_sl rfl (by decide) (.slice G N cG) xs u0 rfl rfl rfl (by rw [hO1.out.xl]; exact hO1.out.row) hB1.out.out hB1.out.size (by rw [hO1.out.xl]; have := HNM.out; clear e1; omega) ?_; intro v1 w3 hown1 hB3 hg1 had; clear had)
     have hO3 := hO1.out.push (by rw [List.length_append, hO1.out.xl] at hown1; exact hown1) hg1
     have hK3 := hid (blk_grown hK1.out hg1 (own_ne hO1.out.row hK1.out (by decide)))
     have HE3 := hid (blk_grown HE1.out hg1 (own_ne hO1.out.row HE1.out (by decide)))
     have hW3 := hid (show Bw w w3 from ⟨hB3⟩)
     have hnot : f ∉ (gs ++ [([] : List Int)]).getD (N + 1 - 1) [] := by rw [← HN.out]; simp
     have hnext : (grp (L.take (j + 1))).1 = (gs ++ [([] : List Int)]).set (N + 1 - 1) ((gs ++ [([] : List Int)]).getD (N + 1 - 1) [] ++ [f]) := by rw [HSTEP.out, stepG, if_neg hp0, ← HN.out]; simp
     obtain ⟨N2, hN2⟩ : ∃ N2, N + 1 = N2 := ⟨_, rfl⟩
     have hb2 : 0 < N2 ∧ N2 ≤ 4097 := by have := HNM.out; clear e1; omega
     rw [hN2] at hO3 hnot hnext
     have HLN2 := hid (show ((gs ++ [([] : List Int)]).getD (N2 - 1) []).length ≤ 4096 by rw [← hN2, ← HN.out]; simp)
     generalize gs ++ [([] : List Int)] = gq at *
     generalize xs ++ [u0] = xq at *
     generalize Wt.heap.size = T2 at *
     clear hN2 hO1 hB1 hK1 HE1 hg1 hown1 hB3 hp0 HN HNM HSTEP HGL
     obtain ⟨gv, c2, rfl, hc⟩ := hO3.form hb2.1
     have hN63 : N2 ≤ 9223372036854775807 := by have := hb2.2; clear e1; omega
     have hN0 : 0 < N2 := hb2.1
     obtain ⟨hc1, hf1⟩ := hc (N2 - 1) (by clear e1; omega)
     have hel := hO3.el (N2 - 1) (by clear e1; omega)
     obtain ⟨xv, hxv⟩ : ∃ xv, xq.getD (N2 - 1) u0 = xv := ⟨_, rfl⟩
     obtain ⟨gl, hgl2⟩ : ∃ gl, gq.getD (N2 - 1) [] = gl := ⟨_, rfl⟩
     rw [hxv, hgl2] at hel
     rw [hxv] at hc1
     rw [hgl2] at hnot hnext
     obtain ⟨nf, hnf⟩ : ∃ nf, gl.length = nf := ⟨_, rfl⟩
     have HNF := hid hnf
     rw [hnf] at hel
     obtain ⟨F, cf, rfl, hF⟩ := hel.reads
     have hlv : nf ≤ 4096 := by
      rw [← hnf, ← hgl2]
      exact HLN2.out
     have HLV := hid hlv
     have HXV := hid hxv
     have HGL2 := hid hgl2
     have HNX := hid hnext
     have HNT := hid hnot
     have HEL := hid hel
     have HO3 := hid hO3
     have e5 : IntKind.i64.wrap ((N2 : Int) - 1) = (N2 : Int) - 1 := i64w (by clear e1; omega) (by clear e1; omega)
     have i4 : (0 : Int) ≤ (N2 : Int) - 1 := by clear e1 e5; omega
     have i5 : (N2 : Int) - 1 < (N2 : Int) := by clear e1 e5; omega
     have i6 : (1 : Int) ≤ (N2 : Int) := by clear e1 e5; omega
     have z1 : w3.cell? ⟨gb, 1, none⟩ = some (.int .i64 f) := (blk_cell HE3.out 1).trans rfl
     clear hc hxv hgl2 hnext hnot hel hO3 hnf hlv
     clear hp2 hb2 hfr hF hgb
     go_wp2
     go_quiet ((go_at_call 59; exact Calls.quiet_of_same ((contains_no F nf cf gl f _ (HEL.out.ri.to (Bw.drawn ⟨⟨_, rfl⟩⟩)) HNT.out (by have := HLV.out; clear e1 e5; omega)).mono fun e w' h => ⟨h.1, h.2.symm⟩)))
     have bq1 : Bw w3 (w3.drewN nq) := Bw.drawn ⟨⟨nq, rfl⟩⟩
     have hc2 := pw_cell_below bq1.out hc1
     have z2 := pw_cell_below bq1.out z1
     replace HO3 := hid (HO3.out.to bq1)
     replace HEL := hid (HEL.out.to bq1)
     replace hW3 := hid (hW3.out.trans bq1)
     replace hK3 := hid ((bq1.out.block _ (blk_lt hK3.out)).trans hK3.out)
     have HE4 := hid ((bq1.out.block _ (blk_lt HE3.out)).trans HE3.out)
     clear bq1 hc1 z1 hf1 HE3
     generalize w3.drewN nq = w4 at *
     go_upto_region 12 with fail
     have bD : Bw w4 (w4.drewN 1) := Bw.drawn ⟨⟨1, rfl⟩⟩
     refine start_ (n := 12) (S := fun w' => w'.cell? ⟨gv, N2 - 1, none⟩ = some (.slice F nf cf) ∧ w'.cell? ⟨gb, 1, none⟩ = some (.int .i64 f)) (ds := [11]) #[false, false, false, false, false, false, false, false, false, false, false, false] (by kernel_rfl) rfl rfl ⟨hc2, z2⟩ (fun hHeld => ?_)
     refine pq_ (i := 0) (N := (some 67)) (v := ?_) (a' := ?_) rfl rfl (by kernel_rfl) (fun _ _ _ h => h) (Or.inl ⟨by rfl, ?_⟩) ?_ ?_
     rotate_left; (intro w'; go_simp; with_reducible rfl); rotate_left; (simp only [Act.put, s1_, s2_, s3_, i64_w, i32_w]; rfl)
     refine pq_ (i := 1) (N := (some 68)) (v := ?_) (a' := ?_) rfl rfl (by kernel_rfl) (fun _ _ _ h => h) (Or.inl ⟨by rfl, ?_⟩) ?_ ?_
     rotate_left; (intro w'; go_simp; with_reducible rfl); rotate_left; (simp only [Act.put, s1_, s2_, s3_, i64_w, i32_w]; rfl)
     refine pq_ (i := 2) (N := (some 69)) (v := ?_) (a' := ?_) rfl rfl (by kernel_rfl) (fun _ _ _ h => h) (Or.inl ⟨by rfl, ?_⟩) ?_ ?_
     rotate_left; (intro w'; go_simp; with_reducible rfl); rotate_left; (simp only [Act.put, s1_, s2_, s3_, i64_w, i32_w]; rfl)
     refine pq_ (i := 3) (N := (some 70)) (v := ?_) (a' := ?_) rfl rfl (by kernel_rfl) (fun _ _ _ h => h) (Or.inl ⟨by rfl, ?_⟩) ?_ ?_
     rotate_left; (intro w'; go_simp; with_reducible rfl); rotate_left; (simp only [Act.put, s1_, s2_, s3_, i64_w, i32_w]; rfl)
     refine pq_ (i := 4) (N := (some 71)) (v := ?_) (a' := ?_) rfl rfl (by kernel_rfl) (fun _ _ _ h => h) (Or.inl ⟨by rfl, ?_⟩) ?_ ?_
     rotate_left; (intro w'; go_simp; with_reducible rfl); rotate_left; (simp only [Act.put, s1_, s2_, s3_, i64_w, i32_w]; rfl)
     refine tq_ (i := 5) (N := (some 72)) (v := ?_) (a' := ?_) rfl rfl (by kernel_rfl) (fun _ _ _ h => h) (Or.inl ⟨by rfl, ?_⟩) hHeld ?_ ?_
     rotate_left; (rintro w' ⟨s0, s1⟩; go_simp; with_reducible rfl); rotate_left; (simp only [Act.put, s1_, s2_, s3_, i64_w, i32_w]; rfl)
     refine pq_ (i := 6) (N := (some 73)) (v := ?_) (a' := ?_) rfl rfl (by kernel_rfl) (fun _ _ _ h => h) (Or.inl ⟨by rfl, ?_⟩) ?_ ?_
     rotate_left; (intro w'; go_simp; with_reducible rfl); rotate_left; (simp only [Act.put, s1_, s2_, s3_, i64_w, i32_w]; rfl)
     refine tq_ (i := 7) (N := (some 74)) (v := ?_) (a' := ?_) rfl rfl (by kernel_rfl) (fun _ _ _ h => h) (Or.inl ⟨by rfl, ?_⟩) hHeld ?_ ?_
     rotate_left; (rintro w' ⟨s0, s1⟩; go_simp; with_reducible rfl); rotate_left; (simp only [Act.put, s1_, s2_, s3_, i64_w, i32_w]; rfl)
     refine one_ (i := 8) (N := (some 75)) #[true, true, true, true, true, true, true, true, true, false, false, false] rfl rfl (by kernel_rfl) (by decide) (fun K hK => ?_)
     have bA : Bw w4 ((w4.drewN 1).alloc (.cells #[.int .i64 f] 3)) := bD.alloc _
     refine value_ (w1 := ?_) (v := ?_) (by rfl) rfl ?_ ?_
     rotate_left 2
     ·go_simp
      constructor
      ·rfl
      ·rfl
     refine hK.out _ _ ⟨pw_cell_below bA.out hc2, pw_cell_below bA.out z2⟩ (fun hHeld => ?_)
     clear hK K; refine norm_ (a' := ?_) ?_ ?_; rotate_left; (show Act.put _ (some 75) _ = _; simp only [Act.put, s1_, s2_, s3_, i64_w, i32_w]; rfl)
     refine one_ (i := 9) (N := (some 76)) #[true, true, true, true, true, true, true, true, true, true, false, false] rfl rfl (by kernel_rfl) (by decide) (fun K hK => ?_)
     refine step_append_cells (w0 := w) w.heap.size (by rfl) (.tmp 72) (.tmp 75) 27 3 (.int .i64 0) 1 8 rfl Try.underlying27 info_int rfl (by decide) (by decide) (.slice F nf cf) nf (nums .i64 gl) [.int .i64 f] rfl rfl rfl (by simp [Value.oneCell']) (HEL.out.to bD).out (hW3.out.trans bD).out (hW3.out.trans bD).size (by have := HLV.out; clear e1 e5; omega) ?_
     intro v1 w9 hown1 hB9 hg9 had9
     have o9 : OI w9 w.heap.size v1 (gl ++ [f]).length (gl ++ [f]) := ⟨by rw [nums_append, List.length_append, HNF.out]; exact hown1⟩
     have HV := HO3.out.to bD
     obtain ⟨gv_, c2_, ev_, hcv⟩ := HV.form hN0
     simp only [Value.slice.injEq, and_true, true_and, Option.some.injEq, Addr.mk.injEq] at ev_
     obtain ⟨rfl, rfl⟩ := ev_
     have hrow9 : w9.ownsRow w.heap.size 27 1 (.slice (some ⟨gv, 0, none⟩) N2 c2) N2 xq := own_other HV.row hg9 (own_type_ne HV.row (HEL.out.to bD).out (by decide))
     have hcc : w9.cell? ⟨gv, N2 - 1, none⟩ = some (.slice F nf cf) ∧ w9.frozen? ⟨gv, N2 - 1, none⟩ = false := row_cell hrow9 (by clear e1 e5; omega) HXV.out
     obtain ⟨sc, sf⟩ := hcc
     obtain ⟨F1, cf1, rfl, -⟩ := o9.reads
     have hx9 := HV.ext (x1 := .slice F1 (gl ++ [f]).length cf1) (f := f) hN0 (by rw [HGL2.out]; exact o9) (by rw [HXV.out]; exact hg9) (by rw [HXV.out]; exact had9)
     have HF9 := hid (show GG (w9.setCell ⟨gv, N2 - 1, none⟩ (.slice F1 (gl ++ [f]).length cf1)) w.heap.size T2 (.slice (some ⟨gv, 0, none⟩) N2 c2) (grp (L.take (j + 1))).1.length (xq.set (N2 - 1) (.slice F1 (gl ++ [f]).length cf1)) (grp (L.take (j + 1))).1 by rw [HNX.out, List.length_set, HV.len]; rw [HGL2.out] at hx9; exact hx9)
     have hgl9 : w.heap.size ≤ gv := own_base HV.row gv rfl
     have HB9 := hid (show Bw w (w9.setCell ⟨gv, N2 - 1, none⟩ (.slice F1 (gl ++ [f]).length cf1)) from bw_set ⟨hB9⟩ hgl9 _ _)
     have hk9 := blk_grown ((bD.out.block _ (blk_lt hK3.out)).trans hK3.out) hg9 (own_ne (HEL.out.to bD).out ((bD.out.block _ (blk_lt hK3.out)).trans hK3.out) (by decide))
     have hne9 := own_ne hrow9 hk9 (by decide)
     have HK9 := hid (show (w9.setCell ⟨gv, N2 - 1, none⟩ (.slice F1 (gl ++ [f]).length cf1)).heap[w.heap.size]? = some (.cells #[.int .i64 ro, .slice A n c] 26 (0, 0)) from (Below.heap_setCell w9 ⟨gv, N2 - 1, none⟩ _ w.heap.size (fun e => hne9 (by rw [e]; rfl))).trans hk9)
     obtain ⟨m9, hm9⟩ : ∃ m9, (gl ++ [f]).length = m9 := ⟨_, rfl⟩
     rw [hm9] at HF9 HB9 HK9 ⊢
     have he9 := blk_grown ((bD.out.block _ (blk_lt HE4.out)).trans HE4.out) hg9 (own_ne (HEL.out.to bD).out ((bD.out.block _ (blk_lt HE4.out)).trans HE4.out) (by decide))
     have zc : w9.cell? ⟨gb, 1, none⟩ = some (.int .i64 f) := (blk_cell he9 1).trans rfl
     clear o9 HV hcv hrow9 hx9 hgl9 hk9 hne9 hm9 hown1 hB9 hg9 had9 he9
     refine hK.out _ _ ⟨sc, zc⟩ (fun hHeld => ?_)
     clear hK K; refine norm_ (a' := ?_) ?_ ?_; rotate_left; (show Act.put _ (some 76) _ = _; simp only [Act.put, s1_, s2_, s3_, i64_w, i32_w]; rfl)
     refine pq_ (i := 10) (N := (some 77)) (v := ?_) (a' := ?_) rfl rfl (by kernel_rfl) (fun _ _ _ h => h) (Or.inl ⟨by rfl, ?_⟩) ?_ ?_
     rotate_left; (intro w'; go_simp; with_reducible rfl); rotate_left; (simp only [Act.put, s1_, s2_, s3_, i64_w, i32_w]; rfl)
     refine last_ (i := 11) (N := none) #[true, true, true, true, true, true, true, true, true, true, true, true] rfl rfl (by kernel_rfl) (by decide) (fun K hK => ?_)
     refine skip_ (w1 := ?_) (by rfl) rfl ?_ ?_
     rotate_left
     ·go_simp
      rfl
     refine hK.out _ _ ?_
     clear hK K
     refine done_ (by kernel_rfl) ?_
     go_wp2
     go_roundw
     case rel => exact ⟨j + 1, _, T2, hj1.out.1, by go_num, HF9, HB9, HK9⟩
     case measure => simp [intOf]; exact hj1.out.2
  ·obtain rfl : j = m := by omega
   have t1 : decide ((j : Int) < (j : Int)) = false := decide_eq_false (by omega)
   have hT : L.take j = L := List.take_of_length_le (by rw [HLN.out]; exact Nat.le_refl _)
   have hO9 := hO.out
   rw [hT] at hO9
   obtain ⟨N, hN⟩ : ∃ N, (grp L).1.length = N := ⟨_, rfl⟩
   rw [hN] at hO9
   have HN9 := hid hN
   obtain ⟨G, cG, rfl, -⟩ := hO9.sl
   have HO9 := hid hO9
   clear hO9 hO hN hT
   go_wp2
   exact bodyPost_ret (v := .tuple #[.slice G N cG, .bool true]) (by simp [results, Try.results26, go_sem]) rfl ⟨_, xs, T, rfl, by rw [HN9.out]; exact HO9.out, hB.out⟩
end Go.Proofs.Ytkendhkaheoinaa.U
set_option linter.unusedVariables false
set_option linter.unusedSimpArgs false
namespace Go.Proofs.Ytkendhkaheoinaa.U
open Go.RowKit Go.Lib Go.Proofs.YtkendhkaheoinaaW.PrintWords
theorem ts_take {ts : List Nat} {k : Nat} (h : k < ts.length) (s : Sta) : runT s (ts.take (k + 1)) = stepS (runT s (ts.take k)) (ts[k] : Int) := by
 rw [List.take_add_one, List.getElem?_eq_getElem h, Option.toList_some, runT_snoc]
set_option maxHeartbeats 8000000 in
set_option maxRecDepth 100000 in
theorem impl_RunEvents (x : Value) (s : Sta) (a b : Nat) (B : Option Addr) (m d : Nat) (w : World) (hx : StR w x s) (r : EvR w B m (evs s.lv a b)) (hm : m ≤ 4096) (hbb : b ≤ 1000) (hok : staOk s.ro s.lv s.ms s.ts s.bd = true) :
  Calls Try.prog 9 #[x, .slice B m d] w fun e w' => ∃ v, e = .returned v ∧ StO w' w.heap.size w'.heap.size v (runA s a b) ∧ Bw w w' := by
 have hs := StG.of hok
 have hmx := hs.f.n
 have hx0 := hx
 have HL := hid (show s.lv.length ≤ 1000000 ∧ s.ms.length ≤ 1000000000 ∧ s.ts.length ≤ 1000000000 ∧ s.bd.length ≤ 1000000000 from ⟨by omega, by rw [hs.f.ms]; omega, by rw [hs.f.ts]; omega, by have := hs.f.bd; omega⟩)
 obtain ⟨A0, c0, A1, c1, A2, c2, A3, c3, rfl, r0, r1, r2, r3⟩ := hx
 have b0 := (Bw.box1 w (.cells #[.int .i64 s.ro, .slice A0 s.lv.length c0, .slice A1 s.ms.length c1, .slice A2 s.ts.length c2, .slice A3 s.bd.length c3] 29)).alloc (.cells #[.int .i64 0, .slice none 0 0, .slice none 0 0, .slice none 0 0, .slice none 0 0] 29)
 have g0 := box_cell ((Bw.refl (w.alloc (.cells #[.int .i64 s.ro, .slice A0 s.lv.length c0, .slice A1 s.ms.length c1, .slice A2 s.ts.length c2, .slice A3 s.bd.length c3] 29))).alloc (.cells #[.int .i64 0, .slice none 0 0, .slice none 0 0, .slice none 0 0, .slice none 0 0] 29)) 0
 have g1 := box_cell ((Bw.refl (w.alloc (.cells #[.int .i64 s.ro, .slice A0 s.lv.length c0, .slice A1 s.ms.length c1, .slice A2 s.ts.length c2, .slice A3 s.bd.length c3] 29))).alloc (.cells #[.int .i64 0, .slice none 0 0, .slice none 0 0, .slice none 0 0, .slice none 0 0] 29)) 1
 have g2 := box_cell ((Bw.refl (w.alloc (.cells #[.int .i64 s.ro, .slice A0 s.lv.length c0, .slice A1 s.ms.length c1, .slice A2 s.ts.length c2, .slice A3 s.bd.length c3] 29))).alloc (.cells #[.int .i64 0, .slice none 0 0, .slice none 0 0, .slice none 0 0, .slice none 0 0] 29)) 2
 have g3 := box_cell ((Bw.refl (w.alloc (.cells #[.int .i64 s.ro, .slice A0 s.lv.length c0, .slice A1 s.ms.length c1, .slice A2 s.ts.length c2, .slice A3 s.bd.length c3] 29))).alloc (.cells #[.int .i64 0, .slice none 0 0, .slice none 0 0, .slice none 0 0, .slice none 0 0] 29)) 3
 have g4 := box_cell ((Bw.refl (w.alloc (.cells #[.int .i64 s.ro, .slice A0 s.lv.length c0, .slice A1 s.ms.length c1, .slice A2 s.ts.length c2, .slice A3 s.bd.length c3] 29))).alloc (.cells #[.int .i64 0, .slice none 0 0, .slice none 0 0, .slice none 0 0, .slice none 0 0] 29)) 4
 simp only [List.getElem?_toArray, List.getElem?_cons_zero, List.getElem?_cons_succ] at g0 g1 g2 g3 g4
 have hR := heap_alloc_new (w.alloc (.cells #[.int .i64 s.ro, .slice A0 s.lv.length c0, .slice A1 s.ms.length c1, .slice A2 s.ts.length c2, .slice A3 s.bd.length c3] 29)) (.cells #[.int .i64 0, .slice none 0 0, .slice none 0 0, .slice none 0 0, .slice none 0 0] 29 (0, 0))
 rw [show (w.alloc (.cells #[.int .i64 s.ro, .slice A0 s.lv.length c0, .slice A1 s.ms.length c1, .slice A2 s.ts.length c2, .slice A3 s.bd.length c3] 29)).heap.size = w.heap.size + 1 by simp] at hR
 have HR := hid hR
 have HOK := hid hok
 have HOE := hid (evs_grp s.lv a b)
 have HRT := hid (runT_tks hok a b)
 have HMM := hid hm
 have HBB := hid (show b ≤ 9223372036854775800 by omega)
 clear hm
 clear hR hok
 go_enter Try.func9, Try.ntmps9
 go_upto_region 1 with fail
 generalize ((w.alloc (.cells #[.int .i64 s.ro, .slice A0 s.lv.length c0, .slice A1 s.ms.length c1, .slice A2 s.ts.length c2, .slice A3 s.bd.length c3] 29)).alloc (.cells #[.int .i64 0, .slice none 0 0, .slice none 0 0, .slice none 0 0, .slice none 0 0] 29)) = W1 at *
 go_wp2_with fail
 refine (impl_copyState _ s _ (hx0.to b0) HL.out.1 HL.out.2.1 HL.out.2.2.1 HL.out.2.2.2).mono ?_
 rintro e w2 ⟨v, rfl, hO, b2⟩
 obtain ⟨vl, vm, vt, vb, rfl, hl, hm, ht_, hb, ap⟩ := hO
 obtain ⟨Al, cl, rfl, _, _⟩ := hl.reads
 obtain ⟨Am, cm, rfl, _, _⟩ := hm.reads
 obtain ⟨At, ct, rfl, _, _⟩ := ht_.reads
 obtain ⟨Ab, cb, rfl, _, _⟩ := hb.reads
 have bx := Bw.box1 w2 (.cells #[.int .i64 s.ro, .slice Al s.lv.length cl, .slice Am s.ms.length cm, .slice At s.ts.length ct, .slice Ab s.bd.length cb] 29)
 have HF := hid (heap_alloc_new w2 (.cells #[.int .i64 s.ro, .slice Al s.lv.length cl, .slice Am s.ms.length cm, .slice At s.ts.length ct, .slice Ab s.bd.length cb] 29 (0, 0)))
 have hO2 : StO w2 W1.heap.size w2.heap.size (.agg #[.int .i64 s.ro, .slice Al s.lv.length cl, .slice Am s.ms.length cm, .slice At s.ts.length ct, .slice Ab s.bd.length cb]) s := ⟨_, _, _, _, rfl, hl, hm, ht_, hb, ap⟩
 have HO := hid (hO2.to bx)
 have HB1 := hid (b2.trans bx)
 have hb0 := b0.size
 have hb2 := b2.size
 have hw1 : w.heap.size + 1 < W1.heap.size := blk_lt HR.out
 have HRR := hid ((HB1.out.out.block _ (blk_lt HR.out)).trans HR.out)
 have HK := hid (b0.trans HB1.out)
 replace g0 := pw_cell_below HB1.out.out g0
 replace g1 := pw_cell_below HB1.out.out g1
 replace g2 := pw_cell_below HB1.out.out g2
 replace g3 := pw_cell_below HB1.out.out g3
 replace g4 := pw_cell_below HB1.out.out g4
 have hP1 : w2.heap.size + 1 ≤ (w2.alloc (.cells #[.int .i64 s.ro, .slice Al s.lv.length cl, .slice Am s.ms.length cm, .slice At s.ts.length ct, .slice Ab s.bd.length cb] 29)).heap.size := by simp
 clear hO2 hl hm ht_ hb bx b2
 go_upto_region 2 with fail
 generalize (w2.alloc (.cells #[.int .i64 s.ro, .slice Al s.lv.length cl, .slice Am s.ms.length cm, .slice At s.ts.length ct, .slice Ab s.bd.length cb] 29)) = W3 at *
 generalize w2.heap.size = P at *
 have r0' := (r0.to HK.out)
 have r1' := (r1.to HK.out)
 have r2' := (r2.to HK.out)
 have r3' := (r3.to HK.out)
 go_wp2_with fail
 refine (impl_StateOk s.ro A0 _ c0 s.lv A1 _ c1 s.ms A2 _ c2 s.ts A3 _ c3 s.bd _ r0' r1' r2' r3').mono ?_
 rintro e w4 ⟨rfl, b4⟩
 rw [HOK.out]
 replace g0 := pw_cell_below b4.out g0
 replace g1 := pw_cell_below b4.out g1
 replace g2 := pw_cell_below b4.out g2
 replace g3 := pw_cell_below b4.out g3
 replace g4 := pw_cell_below b4.out g4
 have hk4 := (b4.out.block _ (blk_lt HF.out)).trans HF.out
 have HO4 := hid (HO.out.to b4)
 have HR4 := hid ((b4.out.block _ (blk_lt HRR.out)).trans HRR.out)
 have HB4 := hid (HK.out.trans b4)
 have hP4 : P + 1 ≤ w4.heap.size := by have := b4.size; omega
 have HP4 := hid hk4
 clear r0' r1' r2' r3' HF HO HRR HK HB1 hk4 b4
 ·have HR0 := hid (r.to HB4.out)
  go_wp2_with fail
  refine (impl_groups s.ro A0 _ c0 B m d (evs s.lv a b) _ HR0.out HOE.out.1 hs.one hmx HMM.out).mono ?_
  rintro e w5 ⟨vg, xs, T, rfl, hGG, b5⟩
  rw [HOE.out.2.1, List.length_map] at hGG
  obtain ⟨G, cG, rfl, _⟩ := hGG.sl
  obtain ⟨ts, hts⟩ : ∃ ts, tks s.lv a b = ts := ⟨_, rfl⟩
  have HTS := hid hts
  rw [hts] at hGG
  obtain ⟨N, hN⟩ : ∃ N, ts.length = N := ⟨_, rfl⟩
  have HN := hid (show ts.length = N ∧ N ≤ b from ⟨hN, by rw [← hN, ← hts]; exact tks_len s.lv a b⟩)
  rw [hts, hN]
  rw [hN] at hGG
  clear hts hN
  have HG5 := hid hGG
  have hP4' : P ≤ w4.heap.size := by omega
  have HB63 := hid (show b ≤ 9223372036854775800 from HBB.out)
  have hk5 := (b5.out.block _ (blk_lt HP4.out)).trans HP4.out
  have HO5 := hid (HO4.out.to b5)
  have HR5 := hid ((b5.out.block _ (blk_lt HR4.out)).trans HR4.out)
  have HB5 := hid (HB4.out.trans b5)
  have HK5 := hid hk5
  have hP5 : P + 1 ≤ w5.heap.size := by have := b5.size; omega
  have hOK := HOK
  clear g0 g1 g2 g3 g4 b5 HP4 HO4 HR4 HB4 hk5 hGG HR0
  go_wp2
  go_loopw [25] (fun v25 wr => ∃ k : Nat, k ≤ N ∧ v25 = .int .i64 k ∧ Hid (wr.heap[P]? = some (.cells #[.int .i64 s.ro, .slice Al s.lv.length cl, .slice Am s.ms.length cm, .slice At s.ts.length ct, .slice Ab s.bd.length cb] 29 (0, 0))) ∧ Hid (StO wr W1.heap.size P (.agg #[.int .i64 s.ro, .slice Al s.lv.length cl, .slice Am s.ms.length cm, .slice At s.ts.length ct, .slice Ab s.bd.length cb]) (runT s (ts.take k))) ∧ Hid (Wi w5 wr W1.heap.size P)) (fun v25 _ => N - (intOf v25).toNat)
  case atStart => exact ⟨0, by omega, rfl, HK5, HO5, hid (Wi.refl _ _ _)⟩
  case round =>
   obtain ⟨k, hk, rfl, hB, hS, hW⟩ := hrel
   by_cases hlt : k < N
   ·have t1 : decide ((k : Int) < (N : Int)) = true := decide_eq_true (by omega)
    have e1 : IntKind.i64.wrap ((k : Int) + 1) = (k : Int) + 1 := i64w (by omega) (by have := HN.out.2; have := HB63.out; omega)
    have i0 : (0 : Int) ≤ (k : Int) := by clear e1; omega
    have i1 : (k : Int) < (N : Int) := by clear e1; omega
    have hkk := hid (show k + 1 ≤ N ∧ N - (k + 1) < N - k by clear e1; omega)
    have hkl : k < ts.length := by rw [HN.out.1]; exact hlt
    have hGr := HG5.out.wi hW.out hP4'
    obtain ⟨_, _, eG, hc⟩ := hGr.sl
    simp only [Value.slice.injEq, and_true, true_and] at eG
    obtain ⟨rfl, rfl⟩ := eG
    obtain ⟨ad, rfl, x1⟩ := hc k hlt
    have hel := hGr.el k hlt
    have hgk : ((ts.map (fun (t : Nat) => actTo s.lv (t : Int) (s.lv.length - 1))).getD k []) = actTo s.lv (ts[k] : Int) (s.lv.length - 1) := by
     rw [List.getD_eq_getElem?_getD, List.getElem?_map, List.getElem?_eq_getElem hkl]; rfl
    rw [hgk] at hel
    obtain ⟨xv, hxv⟩ : ∃ xv, xs.getD k u0 = xv := ⟨_, rfl⟩
    rw [hxv] at hel x1
    obtain ⟨F, cf, rfl, hF⟩ := hel.reads
    have HF := hid hF
    obtain ⟨nf, hnf⟩ : ∃ nf, (actTo s.lv (ts[k] : Int) (s.lv.length - 1)).length = nf := ⟨_, rfl⟩
    rw [hnf] at hF x1
    have HF := hid hF
    have hsz : P ≤ wr.heap.size := by have := hW.out.size; clear e1; omega
    have HSA := hid (runT_same (ts.take k) s)
    have HRK := hid (ts_take hkl s)
    have HSK := hid (StG.of (runT_ok (ts.take k) HOK.out))
    clear hel hF hgk hc hnf hxv hGr
    go_wp2_with fail
    refine (move_StO P W1.heap.size P (runT s (ts.take k)) (ts[k] : Int) _ _ _ _ F nf cf _ (by rw [HSA.out.1]; exact hB.out) HSK.out (by rw [HSA.out.1]; exact hS.out) hsz (by rw [HSA.out.2.1]; exact HF.out)).mono ?_
    rintro e w6 ⟨u, rfl, hk6, hO6, z6⟩
    rw [HSA.out.1] at hk6 hO6
    rw [← HRK.out] at hO6
    have hB6 := hid hk6
    have hS6 := hid hO6
    have hW6 := hid (hW.out.trans z6)
    clear hk6 hO6 z6 hB hS hW x1 HF HRK
    go_wp2
    go_roundw
    case rel => exact ⟨k + 1, hkk.out.1, by go_num, hB6, hS6, hW6⟩
    case measure => simp [intOf]; exact hkk.out.2
   ·obtain rfl : k = N := by omega
    have t1 : decide ((k : Int) < (k : Int)) = false := decide_eq_false (by omega)
    have hT : ts.take k = ts := List.take_of_length_le (by rw [HN.out.1]; exact Nat.le_refl _)
    have z6 := hW.out
    have hk6 := hB.out
    have hO6 := hS.out
    rw [hT, ← HTS.out, HRT.out] at hO6
    have hP6 : P + 1 ≤ wr.heap.size := by have := z6.size; omega
    have hw6 := z6.block _ (blk_lt HR5.out) (by omega)
    have hR6 := hw6.trans HR5.out
    have hB6 := HB5.out.then_wi z6 (by omega)
    clear z6 hw6 HK5 HO5 HR5 HB5 hB hS hW hT
    generalize wr = w6 at *
    have p0 := (blk_cell hk6 0).trans (show _ = some (Value.int .i64 s.ro) from rfl)
    have s0 := (blk_cell hR6 0).trans (show _ = some (Value.int .i64 0) from rfl)
    have f0 := blk_frozen hR6 0
    have p1 := (blk_cell hk6 1).trans (show _ = some (Value.slice Al s.lv.length cl) from rfl)
    have s1 := (blk_cell hR6 1).trans (show _ = some (Value.slice none 0 0) from rfl)
    have f1 := blk_frozen hR6 1
    have p2 := (blk_cell hk6 2).trans (show _ = some (Value.slice Am s.ms.length cm) from rfl)
    have s2 := (blk_cell hR6 2).trans (show _ = some (Value.slice none 0 0) from rfl)
    have f2 := blk_frozen hR6 2
    have p3 := (blk_cell hk6 3).trans (show _ = some (Value.slice At s.ts.length ct) from rfl)
    have s3 := (blk_cell hR6 3).trans (show _ = some (Value.slice none 0 0) from rfl)
    have f3 := blk_frozen hR6 3
    have p4 := (blk_cell hk6 4).trans (show _ = some (Value.slice Ab s.bd.length cb) from rfl)
    have s4 := (blk_cell hR6 4).trans (show _ = some (Value.slice none 0 0) from rfl)
    have f4 := blk_frozen hR6 4
    have hwi : Wi w6 (((((w6.setCell ⟨w.heap.size + 1, 0, none⟩ (.int .i64 s.ro)).setCell ⟨w.heap.size + 1, 1, none⟩ (.slice Al s.lv.length cl)).setCell ⟨w.heap.size + 1, 2, none⟩ (.slice Am s.ms.length cm)).setCell ⟨w.heap.size + 1, 3, none⟩ (.slice At s.ts.length ct)).setCell ⟨w.heap.size + 1, 4, none⟩ (.slice Ab s.bd.length cb)) (w.heap.size + 1) (w.heap.size + 1 + 1) := (((((Wi.refl _ _ _).trans (Wi.set _ _ 0 (.int .i64 s.ro))).trans (Wi.set _ _ 1 (.slice Al s.lv.length cl))).trans (Wi.set _ _ 2 (.slice Am s.ms.length cm))).trans (Wi.set _ _ 3 (.slice At s.ts.length ct))).trans (Wi.set _ _ 4 (.slice Ab s.bd.length cb))
    have HFF := hid (show (((((w6.setCell ⟨w.heap.size + 1, 0, none⟩ (.int .i64 s.ro)).setCell ⟨w.heap.size + 1, 1, none⟩ (.slice Al s.lv.length cl)).setCell ⟨w.heap.size + 1, 2, none⟩ (.slice Am s.ms.length cm)).setCell ⟨w.heap.size + 1, 3, none⟩ (.slice At s.ts.length ct)).setCell ⟨w.heap.size + 1, 4, none⟩ (.slice Ab s.bd.length cb)).heap[w.heap.size + 1]? = some (.cells #[.int .i64 s.ro, .slice Al s.lv.length cl, .slice Am s.ms.length cm, .slice At s.ts.length ct, .slice Ab s.bd.length cb] 29 (0, 0)) from (blk_set (blk_set (blk_set (blk_set (blk_set hR6 0 (.int .i64 s.ro)) 1 (.slice Al s.lv.length cl)) 2 (.slice Am s.ms.length cm)) 3 (.slice At s.ts.length ct)) 4 (.slice Ab s.bd.length cb)))
    have HST := hid (StO_mono (hO6.wi hwi (Or.inr (by omega))) (show w.heap.size ≤ W1.heap.size by omega) (show P ≤ (((((w6.setCell ⟨w.heap.size + 1, 0, none⟩ (.int .i64 s.ro)).setCell ⟨w.heap.size + 1, 1, none⟩ (.slice Al s.lv.length cl)).setCell ⟨w.heap.size + 1, 2, none⟩ (.slice Am s.ms.length cm)).setCell ⟨w.heap.size + 1, 3, none⟩ (.slice At s.ts.length ct)).setCell ⟨w.heap.size + 1, 4, none⟩ (.slice Ab s.bd.length cb)).heap.size by have := hwi.size; omega))
    have HBF := hid (hB6.then_wi hwi (by omega))
    clear hk6 hO6 hR6 hB6 hwi
    go_wp2
    refine bodyPost_ret (results_cell_row rfl _ _ (w.heap.size + 1) 29 #[.int .i64 s.ro, .slice Al s.lv.length cl, .slice Am s.ms.length cm, .slice At s.ts.length ct, .slice Ab s.bd.length cb] (0, 0) _ rfl HFF.out Try.underlying29 rfl (by kernel_rfl)) rfl ?_
    exact ⟨_, rfl, HST.out, HBF.out⟩
end Go.Proofs.Ytkendhkaheoinaa.U
