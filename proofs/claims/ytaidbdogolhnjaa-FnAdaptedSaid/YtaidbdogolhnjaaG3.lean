
/- Rows of structs of ints, flat; rows of cells (root, level, index). -/
import Derived.Test.YtaidbdogolhnjaaG2
import Derived.Test.YtaidbdogolhnjaaG1
set_option linter.unusedVariables false
set_option linter.unusedSimpArgs false
namespace Go.Proofs.Ytaidbdogolhnjaa.U
open Go.RowKit Go.Lib Go.Proofs.YtaidbdogolhnjaaW.PrintWords

open Go.Proofs.YtaidbdogolhnjaaW.PrintLast Go.Proofs.YtaidbdogolhnjaaW.PrintMore
/-- a slice of structs of k ints that is read; F: all the ints -/
structure FR (w : World) (k : Nat) (A : Option Addr) (n : Nat) (F : List Int) : Prop where
  len : F.length = n * k
  max : n ≤ 9223372036854775807
  at_ : 0 < n → ∃ ad, A = some ad ∧ ∀ j, j < n * k → w.cell? (ad.add j) = some (.int .i64 (rd F (j : Int)))
/-- a row of such structs (type t) of the call's own -/
structure FO (w : World) (base : Nat) (t k : Nat) (v : Value) (n : Nat) (F : List Int) : Prop where mk :: (out : w.ownsRow base t k v n (nums .i64 F))
section
variable {w w' : World} {k n base t c : Nat} {A : Option Addr} {F : List Int} {v u : Value}
theorem FR.to (h : FR w k A n F) (b : Bw w w') : FR w' k A n F := ⟨h.len, h.max, fun hn => by
  obtain ⟨ad, e, hc⟩ := h.at_ hn
  exact ⟨ad, e, fun j hj => pw_cell_below b.out (hc j hj)⟩⟩
theorem FO.to (h : FO w base t k v n F) (b : Bw w w') : FO w' base t k v n F := ⟨pw_own_below h.out b.out⟩
theorem FO.len (h : FO w base t k v n F) : F.length = n * k := by have := h.out.1; simpa [nums] using this
theorem FO.less {base' : Nat} (h : FO w base t k v n F) (hb : base' ≤ base) : FO w base' t k v n F := ⟨own_less h.out hb⟩
theorem FO.grown (h : FO w base t k v n F) (hg : w.grownBy w' u.ownBlock) (ha : Apart v u) : FO w' base t k v n F := ⟨own_other h.out hg ha⟩
theorem FO.nil (w : World) (base t k : Nat) : FO w base t k (.slice none 0 0) 0 [] := ⟨own_nil w base t k⟩
theorem cells_of_nums {w : World} {ad : Addr} {F : List Int} (h : ∀ j u, (nums .i64 F)[j]? = some u → w.cell? (ad.add j) = some u) : ∀ j, j < F.length → w.cell? (ad.add j) = some (.int .i64 (rd F (j : Int))) := fun j hj => by
  have := h j (.int .i64 (rd F (j : Int))) (by rw [nums, List.getElem?_map, List.getElem?_eq_getElem hj, rd_nat, List.getD_eq_getElem?_getD, List.getElem?_eq_getElem hj]; rfl)
  exact this
theorem FO.reads (h : FO w base t k v n F) : ∃ A c, v = .slice A n c ∧ n ≤ c ∧ FR w k A n F := by
  have hl := h.len
  rcases h.out.2 with ⟨rfl, rfl⟩ | ⟨g, cap, cur, rfl, hb, hh, hnc, hcm, hcs, ht⟩
  · exact ⟨none, 0, rfl, Nat.le_refl _, hl, by omega, fun h => by omega⟩
  · refine ⟨_, cap, rfl, hnc, hl, by have : maxLen = 9223372036854775807 := rfl; omega, fun hn => ⟨⟨g, 0, none⟩, rfl, ?_⟩⟩
    rw [← hl]
    exact cells_of_nums (h.out.cells rfl)
theorem FO.fr {m : Nat} (h : FO w base t k (.slice A m c) n F) : FR w k A n F := by
  obtain ⟨A', c', e, _, r⟩ := h.reads
  injection e with e1
  subst e1
  exact r
theorem FO.form (h : FO w base t k (.slice A n c) n F) (hn : 0 < n) : ∃ g, A = some ⟨g, 0, none⟩ ∧ base ≤ g ∧ g < w.heap.size ∧ (Value.slice A n c).ownBlock = some g := by
  rcases h.out.2 with ⟨e, h0⟩ | ⟨g, cap, cur, e, hb, hh, _⟩
  · omega
  · injection e with e1 e2 e3
    subst e1
    exact ⟨g, rfl, hb, blk_lt hh, rfl⟩
theorem FO.cell {g j : Nat} (h : FO w base t k (.slice (some ⟨g, 0, none⟩) n c) n F) (hj : j < n * k) : w.cell? ⟨g, j, none⟩ = some (.int .i64 (rd F (j : Int))) ∧ w.frozen? ⟨g, j, none⟩ = false := by
  have hl := h.len
  have h1 := cells_of_nums (h.out.cells rfl) j (by omega)
  rw [add_plain] at h1
  rcases h.out.2 with ⟨e, h0⟩ | ⟨g', cap, cur, e, hb, hh, _⟩
  · subst h0
    omega
  · injection e with e1
    injection e1 with e1
    injection e1 with e1
    subst e1
    exact ⟨h1, blk_frozen hh j⟩
theorem FO.set {g j : Nat} (h : FO w base t k (.slice (some ⟨g, 0, none⟩) n c) n F) (hj : j < n * k) (x : Int) : FO (w.setCell ⟨g, j, none⟩ (.int .i64 x)) base t k (.slice (some ⟨g, 0, none⟩) n c) n (F.set j x) := by
  have hl := h.len
  obtain ⟨h1, h2⟩ := h.out
  refine ⟨⟨by simpa [nums] using h1, ?_⟩⟩
  rcases h2 with ⟨e, h0⟩ | ⟨g', cap, cur, e, hb, hh, hnc, hcm, hcs, ht⟩
  · subst h0
    omega
  · injection e with e1 e2 e3
    injection e1 with e1
    injection e1 with e1
    subst e1 e3
    refine .inr ⟨g, c, cur.setIfInBounds j (.int .i64 x), rfl, hb, blk_set hh j _, hnc, hcm, by simpa using hcs, ?_⟩
    rw [Array.toList_setIfInBounds, List.take_set, ht]
    simp [nums, List.map_set]
theorem Apart.ofO {base' t' k' n' : Nat} {v' : Value} {F' : List Int} (h : FO w base t k v n F) (h' : FO w' base' t' k' v' n' F') (hb : w.heap.size ≤ base') : Apart v v' := by
  rcases own_base' h.out with e | ⟨b, e, _⟩
  · exact .inl e
  · refine .inr fun e2 => ?_
    have h1 := own_lt h.out b e
    have h2 := own_base h'.out b (by rw [← e2, e])
    omega
theorem Apart.OF {base' t' k' n' : Nat} {v' : Value} {l F' : List Int} (h : OI w base v n l) (h' : FO w' base' t' k' v' n' F') (hb : w.heap.size ≤ base') : Apart v v' := by
  rcases own_base' h.out with e | ⟨b, e, _⟩
  · exact .inl e
  · refine .inr fun e2 => ?_
    have h1 := own_lt h.out b e
    have h2 := own_base h'.out b (by rw [← e2, e])
    omega
theorem Apart.FI {base' n' : Nat} {v' : Value} {l : List Int} (h : FO w base t k v n F) (h' : OI w' base' v' n' l) (hb : w.heap.size ≤ base') : Apart v v' := by
  rcases own_base' h.out with e | ⟨b, e, _⟩
  · exact .inl e
  · refine .inr fun e2 => ?_
    have h1 := own_lt h.out b e
    have h2 := own_base h'.out b (by rw [← e2, e])
    omega
end
theorem bw_set {w w1 : World} {g : Nat} (h : Bw w w1) (hg : w.heap.size ≤ g) (i : Nat) (u : Value) : Bw w (w1.setCell ⟨g, i, none⟩ u) := ⟨h.out.setCell (p := ⟨g, i, none⟩) hg u⟩
theorem make_st {P : Program} (t e : TypeId) (z : Value) (sz bytes : Nat) (ht : P.underlying t = some (.slice e)) (hinfo : (P.info? e).map (fun i => (i.zero, i.size, i.bytes)) = some (some z, sz, bytes)) (m : Nat) (hn : m * bytes ≤ 281474976710656) (hm : m ≤ 281474976710656) :
    ∀ W : World, (Instr.makeSlice t (.int .i64 (m : Int)) (.int .i64 (m : Int))).run P W = .ok (.slice (some ⟨W.heap.size, 0, none⟩) m m) (W.alloc (.cells (madeCells z.cells (m * sz)) e)) := fun W => by
  obtain ⟨i0, hi, hzz⟩ := Option.map_eq_some_iff.1 hinfo
  simp only [Prod.mk.injEq] at hzz
  obtain ⟨hz0, hz1, hz2⟩ := hzz
  have hr := run_make (P := P) W t e i0 z ht hi hz0 .i64 .i64 (m : Int) (m : Int) (by omega) (by omega)
    (by
      have h3 : ((i0.bytes * m : Nat) : Int) ≤ 281474976710656 := by rw [hz2, Nat.mul_comm]; omega
      rwa [Int.natCast_mul] at h3) (by omega)
  simp only [Int.toNat_natCast] at hr
  rwa [hz1] at hr
/-- the ints of a list of cells -/
def idF (l : List Ce) : List Int := l.flatMap fun p => [p.r, p.l, p.i]
theorem idF_cons (x : Ce) (l : List Ce) : idF (x :: l) = x.r :: x.l :: x.i :: idF l := rfl
theorem idF_append (a b : List Ce) : idF (a ++ b) = idF a ++ idF b := by simp [idF]
theorem idF_length (l : List Ce) : (idF l).length = l.length * 3 := by
  induction l with
  | nil => rfl
  | cons x l ih => rw [idF_cons, List.length_cons, List.length_cons, List.length_cons, List.length_cons, ih]; omega
theorem idF_rd : ∀ (l : List Ce) (j : Nat), j < l.length → rd (idF l) ((j * 3 : Nat) : Int) = (gc l j).r ∧ rd (idF l) ((j * 3 + 1 : Nat) : Int) = (gc l j).l ∧ rd (idF l) ((j * 3 + 2 : Nat) : Int) = (gc l j).i
  | [], j, h => by simp at h
  | x :: l, 0, h => ⟨rfl, rfl, rfl⟩
  | x :: l, j + 1, h => by
    have ih := idF_rd l j (by simpa using h)
    simp only [rd_nat] at ih ⊢
    rw [idF_cons, show (j + 1) * 3 = j * 3 + 3 by omega, show j * 3 + 3 + 1 = (j * 3 + 1) + 3 by omega, show j * 3 + 3 + 2 = (j * 3 + 2) + 3 by omega]
    simp only [List.getD_cons_succ]
    exact ih
theorem IdR.fr {w : World} {A : Option Addr} {n : Nat} {l : List Ce} (h : IdR w A n l) : FR w 3 A n (idF l) := ⟨by rw [idF_length, h.len], h.max, fun hn => by
  obtain ⟨ad, e, hc⟩ := h.out.2.2 hn
  refine ⟨ad, e, fun j hj => ?_⟩
  have hl := h.len
  obtain ⟨q, hq, hr⟩ : ∃ q, q < n ∧ (j = q * 3 ∨ j = q * 3 + 1 ∨ j = q * 3 + 2) := ⟨j / 3, by omega, by omega⟩
  have hf := idF_rd l q (by omega)
  have hg : l[q]? = some (gc l q) := by rw [List.getElem?_eq_getElem (by omega), gc_at (by omega)]
  obtain ⟨c, hc3, rfl, hcell⟩ := hc q _ hg
  rcases hr with rfl | rfl | rfl
  · rw [hf.1]; have := hcell 0 _ rfl; rwa [Nat.add_zero] at this
  · rw [hf.2.1]; exact hcell 1 _ rfl
  · rw [hf.2.2]; exact hcell 2 _ rfl⟩
theorem FR.id {w : World} {A : Option Addr} {n : Nat} {l : List Ce} (h : FR w 3 A n (idF l)) : IdR w A n l := by
  have hl : l.length = n := by have := h.len; rw [idF_length] at this; omega
  refine ⟨⟨hl, h.max, fun hn => ?_⟩⟩
  obtain ⟨ad, e, hc⟩ := h.at_ hn
  refine ⟨ad, e, fun j p hp => ⟨_, rfl, rfl, fun i u hu => ?_⟩⟩
  have hj : j < l.length := (List.getElem?_eq_some_iff.1 hp).1
  have hf := idF_rd l j hj
  have hg : gc l j = p := by rw [gc_at hj]; rw [List.getElem?_eq_getElem hj] at hp; exact Option.some.inj hp
  rw [hg] at hf
  match i, hu with
  | 0, hu => obtain rfl := Option.some.inj hu; rw [← hf.1]; exact hc _ (by omega)
  | 1, hu => obtain rfl := Option.some.inj hu; rw [← hf.2.1]; exact hc _ (by omega)
  | 2, hu => obtain rfl := Option.some.inj hu; rw [← hf.2.2]; exact hc _ (by omega)
  | i + 3, hu => simp at hu
theorem info_id : (Try.prog.info? 58).map (fun i => (i.zero, i.size, i.bytes)) = some (some (.agg #[.int .i64 0, .int .i64 0, .int .i64 0]), 3, 24) := by kernel_rfl
/-- a row of cells of the call's own -/
abbrev IdO (w : World) (base : Nat) (v : Value) (n : Nat) (l : List Ce) : Prop := FO w base 58 3 v n (idF l)
theorem IdO.made (W : World) (base m : Nat) (hb : base ≤ W.heap.size) (hm : m ≤ 9223372036854775807) : IdO (W.alloc (.cells (madeCells #[.int .i64 0, .int .i64 0, .int .i64 0] (m * 3)) 58)) base (.slice (some ⟨W.heap.size, 0, none⟩) m m) m (List.replicate m cz) := ⟨by
  have h := World.ownsRow_lit (base := base) (e := 58) (size := 3) W (madeCells #[.int .i64 0, .int .i64 0, .int .i64 0] (m * 3)) m hb (by simpa [maxLen] using hm) (by simp [size_madeCells])
  have hl : (madeCells #[Value.int .i64 0, .int .i64 0, .int .i64 0] (m * 3)).toList = nums .i64 (idF (List.replicate m cz)) := by
    have hz : idF (List.replicate m cz) = List.replicate (m * 3) 0 := by
      clear h hm
      induction m with
      | zero => rfl
      | succ m ih => rw [List.replicate_succ, idF_cons, ih, show (m + 1) * 3 = m * 3 + 1 + 1 + 1 by omega, List.replicate_succ, List.replicate_succ, List.replicate_succ]; rfl
    rw [hz]
    apply List.ext_getElem
    · simp [nums, madeCells]
    · intro i h1 h2
      simp only [nums, List.map_replicate, List.getElem_replicate, madeCells, Array.getElem_toList, Array.getElem_ofFn]
      have : i % 3 = 0 ∨ i % 3 = 1 ∨ i % 3 = 2 := by omega
      rcases this with h | h | h <;> simp [h]
  rwa [hl] at h⟩
theorem set_mid {α : Type} (p q : List α) (x y : α) (j : Nat) (h : j = p.length) : (p ++ x :: q).set j y = p ++ y :: q := by
  subst h
  simp
theorem idF_put (l : List Ce) (j : Nat) (x : Ce) (h : j < l.length) : (((idF l).set (j * 3) x.r).set (j * 3 + 1) x.l).set (j * 3 + 2) x.i = idF (l.set j x) := by
  obtain ⟨p, y, q, rfl, hp⟩ : ∃ p y q, l = p ++ y :: q ∧ p.length = j := ⟨l.take j, l[j], l.drop (j + 1), by rw [← List.drop_eq_getElem_cons h, List.take_append_drop], by simp; omega⟩
  rw [set_mid p q y x j hp.symm, idF_append, idF_append, idF_cons, idF_cons]
  rw [set_mid _ _ _ _ _ (by rw [idF_length]; omega)]
  rw [show idF p ++ x.r :: y.l :: y.i :: idF q = (idF p ++ [x.r]) ++ y.l :: y.i :: idF q by simp, set_mid _ _ _ _ _ (by simp [idF_length]; omega)]
  rw [show (idF p ++ [x.r]) ++ x.l :: y.i :: idF q = (idF p ++ [x.r, x.l]) ++ y.i :: idF q by simp, set_mid _ _ _ _ _ (by simp [idF_length]; omega)]
  simp
theorem copy_step {α : Type} (l : List α) (j : Nat) (z x : α) (hj : j < l.length) (hx : l[j]? = some x) : (l.take j ++ List.replicate (l.length - j) z).set j x = l.take (j + 1) ++ List.replicate (l.length - (j + 1)) z := by
  rw [show l.length - j = (l.length - (j + 1)) + 1 by omega, List.replicate_succ, set_mid _ _ _ _ _ (by simp; omega), List.take_add_one, hx]
  simp
end Go.Proofs.Ytaidbdogolhnjaa.U
set_option linter.unusedVariables false
set_option linter.unusedSimpArgs false
namespace Go.Proofs.Ytaidbdogolhnjaa.U
open Go.RowKit Go.Lib Go.Proofs.YtaidbdogolhnjaaW.PrintWords

theorem eq_at_c {w : World} {A : Option Addr} {n : Nat} {l : List Ce} (h : IdR w A n l) (j : Nat) (hj : j < n) : ∃ ad, A = some ad ∧ w.cell? (ad.add (j * 3)) = some (.int .i64 (gc l j).r) ∧ w.cell? ⟨(ad.add (j * 3)).block, (ad.add (j * 3)).off + 1, none⟩ = some (.int .i64 (gc l j).l) ∧ w.cell? ⟨(ad.add (j * 3)).block, (ad.add (j * 3)).off + 2, none⟩ = some (.int .i64 (gc l j).i) := h.at j hj
theorem three_iota (F : List Int) (a : Int) (k : Nat) (h : k + 2 < F.length) : (((iota k a ++ F.drop k).set k (a + k)).set (k + 1) (a + k + 1)).set (k + 2) (a + k + 1 + 1) = iota (k + 3) a ++ F.drop (k + 3) := by
  rw [set_iota F a k (by omega), show a + (k : Int) + 1 = a + ((k + 1 : Nat) : Int) by omega, set_iota F a (k + 1) (by omega), show a + ((k + 1 : Nat) : Int) + 1 = a + ((k + 2 : Nat) : Int) by omega, set_iota F a (k + 2) (by omega)]
theorem FR.nat3 {w : World} {A : Option Addr} {n : Nat} {F : List Int} (h : FR w 3 A n F) (j : Nat) (hj : j < n) : ∃ ad, A = some ad ∧ w.cell? (ad.add (j * 3)) = some (.int .i64 (rd F ((j * 3 : Nat) : Int))) ∧ w.cell? ⟨(ad.add (j * 3)).block, (ad.add (j * 3)).off + 1, none⟩ = some (.int .i64 (rd F ((j * 3 + 1 : Nat) : Int))) ∧ w.cell? ⟨(ad.add (j * 3)).block, (ad.add (j * 3)).off + 2, none⟩ = some (.int .i64 (rd F ((j * 3 + 2 : Nat) : Int))) := by
  obtain ⟨ad, e, hc⟩ := h.at_ (by omega)
  have h1 := hc (j * 3 + 1) (by omega)
  have h2 := hc (j * 3 + 2) (by omega)
  rw [add_field _ _ _ (by omega)] at h1 h2
  exact ⟨ad, e, hc (j * 3) (by omega), h1, h2⟩
end Go.Proofs.Ytaidbdogolhnjaa.U
set_option linter.unusedVariables false
set_option linter.unusedSimpArgs false
namespace Go.Proofs.Ytaidbdogolhnjaa.U
open Go.RowKit Go.Lib Go.Proofs.YtaidbdogolhnjaaW.PrintWords

/-- w' is w with new blocks, turned at most in the blocks from lo up to hi -/
structure Wi (w w' : World) (lo hi : Nat) : Prop where
  os : w'.os = w.os
  tape : w'.tape = w.tape
  output : w'.output = w.output
  size : w.heap.size ≤ w'.heap.size
  block : ∀ k, k < w.heap.size → ¬ (lo ≤ k ∧ k < hi) → w'.heap[k]? = w.heap[k]?
theorem Wi.refl (w : World) (lo hi : Nat) : Wi w w lo hi := ⟨rfl, rfl, rfl, Nat.le_refl _, fun _ _ _ => rfl⟩
theorem Bw.wi {w w' : World} (b : Bw w w') (lo hi : Nat) : Wi w w' lo hi := ⟨b.out.os, b.out.tape, b.out.output, b.out.size, fun k hk _ => b.out.block k hk⟩
theorem Wi.trans {a b c : World} {lo hi : Nat} (h : Wi a b lo hi) (k : Wi b c lo hi) : Wi a c lo hi := ⟨k.os.trans h.os, k.tape.trans h.tape, k.output.trans h.output, Nat.le_trans h.size k.size, fun i hi hn => (k.block i (Nat.lt_of_lt_of_le hi h.size) hn).trans (h.block i hi hn)⟩
theorem Wi.mono {a b : World} {lo hi lo' hi' : Nat} (h : Wi a b lo hi) (h1 : lo' ≤ lo) (h2 : hi ≤ hi') : Wi a b lo' hi' := ⟨h.os, h.tape, h.output, h.size, fun i hi hn => h.block i hi (fun q => hn ⟨by omega, by omega⟩)⟩
theorem Wi.of_grown {w w' : World} {row : Option Nat} {lo hi : Nat} (g : w.grownBy w' row) (h : ∀ b, row = some b → lo ≤ b ∧ b < hi) : Wi w w' lo hi := ⟨g.os, g.tape, g.output, g.size, fun k hk hn => g.block k hk (fun e => hn (h k e.symm))⟩
theorem Bw.then_wi {w0 w w' : World} {lo hi : Nat} (b : Bw w0 w) (h : Wi w w' lo hi) (hl : w0.heap.size ≤ lo) : Bw w0 w' := ⟨⟨h.os.trans b.out.os, h.tape.trans b.out.tape, h.output.trans b.out.output, Nat.le_trans b.out.size h.size, fun k hk => (h.block k (Nat.lt_of_lt_of_le hk b.out.size) (fun q => by omega)).trans (b.out.block k hk)⟩⟩
/-- a row of structs of k ints (type t) of the call's own, its block between lo and hi -/
structure Rw (w : World) (lo hi t k : Nat) (v : Value) (n : Nat) (F : List Int) : Prop where
  o : FO w lo t k v n F
  b : ∀ b, v.ownBlock = some b → b < hi
section
variable {w w' : World} {lo hi lo' hi' t k n : Nat} {v u : Value} {F : List Int}
theorem FO.rw (h : FO w lo t k v n F) : Rw w lo w.heap.size t k v n F := ⟨h, fun b hb => own_lt h.out b hb⟩
theorem OI.rw (h : OI w lo v n F) : Rw w lo w.heap.size 3 1 v n F := FO.rw ⟨h.out⟩
theorem Rw.oi (h : Rw w lo hi 3 1 v n F) : OI w lo v n F := ⟨h.o.out⟩
theorem Rw.len (h : Rw w lo hi t k v n F) : F.length = n * k := h.o.len
theorem Rw.mono (h : Rw w lo hi t k v n F) (h1 : lo' ≤ lo) (h2 : hi ≤ hi') : Rw w lo' hi' t k v n F := ⟨h.o.less h1, fun b hb => Nat.lt_of_lt_of_le (h.b b hb) h2⟩
theorem Rw.to (h : Rw w lo hi t k v n F) (b : Bw w w') : Rw w' lo hi t k v n F := ⟨h.o.to b, h.b⟩
theorem Rw.in_ (h : Rw w lo hi t k v n F) : ∀ b, v.ownBlock = some b → lo ≤ b ∧ b < hi := fun b hb => ⟨own_base h.o.out b hb, h.b b hb⟩
theorem Rw.wi (h : Rw w lo hi t k v n F) (c : Wi w w' lo' hi') (hd : hi ≤ lo' ∨ hi' ≤ lo) : Rw w' lo hi t k v n F := ⟨⟨own_move h.o.out fun b hb => c.block b (own_lt h.o.out b hb) (fun q => by have := h.in_ b hb; omega)⟩, h.b⟩
theorem Rw.grown (h : Rw w lo hi t k v n F) (hg : w.grownBy w' u.ownBlock) (ha : Apart v u) : Rw w' lo hi t k v n F := ⟨h.o.grown hg ha, h.b⟩
theorem Rw.reads (h : Rw w lo hi t k v n F) : ∃ A c, v = .slice A n c ∧ n ≤ c ∧ FR w k A n F := h.o.reads
theorem Rw.chg (h : Rw w lo hi t k v n F) (hg : w.grownBy w' v.ownBlock) : Wi w w' lo hi := Wi.of_grown hg h.in_
theorem Rw.apart {w1 : World} {lo1 hi1 t1 k1 n1 : Nat} {F1 : List Int} (h : Rw w lo hi t k v n F) (h' : Rw w1 lo1 hi1 t1 k1 u n1 F1) (hd : hi ≤ lo1 ∨ hi1 ≤ lo) : Apart v u := by
  rcases own_base' h.o.out with e | ⟨b, e, _⟩
  · exact .inl e
  · refine .inr fun e2 => ?_
    have h1 := h.in_ b e
    have h2 := h'.in_ b (by rw [← e2, e])
    omega
theorem FR.ri {w : World} {A : Option Addr} {n : Nat} {l : List Int} (h : FR w 1 A n l) : RI w A n l := ⟨by rw [h.len, Nat.mul_one], h.max, fun hn => by
  obtain ⟨ad, e, hc⟩ := h.at_ hn
  exact ⟨ad, e, fun j hj => by
    have := hc j (by omega)
    rwa [rd_nat] at this⟩⟩
end
end Go.Proofs.Ytaidbdogolhnjaa.U
