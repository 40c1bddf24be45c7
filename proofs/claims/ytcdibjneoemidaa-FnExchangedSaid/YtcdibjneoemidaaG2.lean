
/- Cells: validity, width, start and end, by the program and by the reference. -/
import Derived.Test.YtcdibjneoemidaaAp
import Derived.Test.YtcdibjneoemidaaWMore
import Derived.Deep.QuietTactic
import Derived.BigQuiet
import Derived.Deep.RegionHeld3
set_option linter.unusedVariables false
set_option linter.unusedSimpArgs false
namespace Go.Proofs.Ytcdibjneoemidaa.U
open Go.RowKit Go.Lib Go.Proofs.YtcdibjneoemidaaW.PrintWords

/-- a cell: root, level, index -/
structure Ce where
  r : Int
  l : Int
  i : Int
deriving DecidableEq, Repr
def pow2 (l : Int) : Int := if l = 0 then 1 else if l = 1 then 2 else if l = 2 then 4 else if l = 3 then 8 else if l = 4 then 16 else 1
def wid (l : Int) : Int := if l = 0 then 16 else if l = 1 then 8 else if l = 2 then 4 else if l = 3 then 2 else if l = 4 then 1 else 0
def ceOk (x : Ce) : Bool := inR x.r 0 7 && inR x.l 0 4 && inR x.i 0 (pow2 x.l - 1)
def ceAt (x : Ce) : Int := if ceOk x = true then x.r * 16 + x.i * wid x.l else -1
def ceEnd (x : Ce) : Int := ceAt x + wid x.l
theorem lvl5 {l : Int} (h : inR l 0 4 = true) : l = 0 ∨ l = 1 ∨ l = 2 ∨ l = 3 ∨ l = 4 := by have := inR_iff.1 h; omega
theorem wid_range (l : Int) : 0 ≤ wid l ∧ wid l ≤ 16 := by unfold wid; (repeat' split) <;> omega
theorem pow2_range (l : Int) : 1 ≤ pow2 l ∧ pow2 l ≤ 16 := by unfold pow2; (repeat' split) <;> omega
theorem ceOk_facts {x : Ce} (h : ceOk x = true) : (0 ≤ x.r ∧ x.r ≤ 7) ∧ (0 ≤ x.l ∧ x.l ≤ 4) ∧ (0 ≤ x.i ∧ x.i ≤ 15) ∧ x.i < pow2 x.l := by
  simp only [ceOk, Bool.and_eq_true, inR_iff] at h
  have := pow2_range x.l
  omega
theorem ceAt_range (x : Ce) : -1 ≤ ceAt x ∧ ceAt x ≤ 400 := by
  unfold ceAt
  split
  · rename_i h
    have h1 := ceOk_facts h
    have h2 := wid_range x.l
    have h3 := Int.mul_nonneg h1.2.2.1.1 h2.1
    have h4 := Int.mul_le_mul h1.2.2.1.2 h2.2 h2.1 (by omega)
    omega
  · omega
theorem quietB {P : Program} {f : FuncId} {args : Array Value} {w : World} {n : Nat} {b c : Bool} (h : Calls P f args (w.drewN n) fun e w' => e = .returned (.bool b) ∧ w.drewN n = w') (e0 : b = c) : Calls P f args (w.drewN n) fun e w'' => e = .returned (.bool c) ∧ ∃ m, w'' = w.drewN m :=
  Calls.quiet_of_same (h.mono fun e w' h => ⟨by rw [← e0]; exact h.1, h.2.symm⟩)
theorem quietV {P : Program} {f : FuncId} {args : Array Value} {w : World} {n : Nat} {v : Value} (h : Calls P f args (w.drewN n) fun e w' => e = .returned v ∧ w.drewN n = w') : Calls P f args (w.drewN n) fun e w'' => e = .returned v ∧ ∃ m, w'' = w.drewN m :=
  Calls.quiet_of_same (h.mono fun e w' h => ⟨h.1, h.2.symm⟩)
/-- behind a box and some draws -/
theorem Bw.boxN (w : World) (o : Obj) (n : Nat) : Bw w ((w.alloc o).drewN n) := ((Bw.refl w).alloc o).trans (Bw.drawn ⟨⟨n, rfl⟩⟩)
theorem Bw.box1 (w : World) (o : Obj) : Bw w (w.alloc o) := (Bw.refl w).alloc o
/-- a box behind a call that turned nothing old -/
theorem box_cell {w w1 : World} {t : TypeId} {cs : Array Value} (b : Bw (w.alloc (.cells cs t)) w1) (i : Nat) : w1.cell? ⟨w.heap.size, i, none⟩ = cs[i]? := by
  have h : w1.heap[w.heap.size]? = some (.cells cs t (0, 0)) := (b.out.block _ (by simp)).trans (heap_alloc_new w _)
  exact blk_cell h i
end Go.Proofs.Ytcdibjneoemidaa.U
set_option linter.unusedVariables false
set_option linter.unusedSimpArgs false
namespace Go.Proofs.Ytcdibjneoemidaa.U
open Go.RowKit Go.Lib Go.Proofs.YtcdibjneoemidaaW.PrintWords

/-- a slice of cells that is read -/
structure IdR (w : World) (A : Option Addr) (n : Nat) (l : List Ce) : Prop where mk :: (out : ReadsRow (fun (p : Ce) c => c = [.int .i64 p.r, .int .i64 p.l, .int .i64 p.i]) 3 w A n l)
def cz : Ce := ⟨0, 0, 0⟩
def gc (l : List Ce) (j : Nat) : Ce := l.getD j cz
theorem gc_at {l : List Ce} {j : Nat} (h : j < l.length) : gc l j = l[j] := by rw [gc, List.getD_eq_getElem?_getD, List.getElem?_eq_getElem h]; rfl
theorem IdR.len {w : World} {A : Option Addr} {n : Nat} {l : List Ce} (h : IdR w A n l) : l.length = n := h.out.1
theorem IdR.max {w : World} {A : Option Addr} {n : Nat} {l : List Ce} (h : IdR w A n l) : n ≤ 9223372036854775807 := h.out.2.1
theorem IdR.to {w w' : World} {A : Option Addr} {n : Nat} {l : List Ce} (h : IdR w A n l) (b : Bw w w') : IdR w' A n l := ⟨h.out.imp_ b.out fun _ _ k => k⟩
theorem IdR.at {w : World} {A : Option Addr} {n : Nat} {l : List Ce} (h : IdR w A n l) (j : Nat) (hj : j < n) :
    ∃ ad, A = some ad ∧ w.cell? (ad.add (j * 3)) = some (.int .i64 (gc l j).r) ∧ w.cell? ⟨(ad.add (j * 3)).block, (ad.add (j * 3)).off + 1, none⟩ = some (.int .i64 (gc l j).l) ∧ w.cell? ⟨(ad.add (j * 3)).block, (ad.add (j * 3)).off + 2, none⟩ = some (.int .i64 (gc l j).i) := by
  obtain ⟨ad, c, e, _, rfl, hc⟩ := h.out.get_ cz (j : Int) (by omega) (by omega)
  rw [Int.toNat_natCast] at hc
  exact ⟨ad, e, by have := hc 0 _ rfl; rwa [Nat.add_zero] at this, by have := hc 1 _ rfl; rwa [add_field _ _ _ (by omega)] at this, by have := hc 2 _ rfl; rwa [add_field _ _ _ (by omega)] at this⟩
def meshEnd : List Ce → Int → Option Int
  | [], a => some a
  | x :: xs, a => if ceOk x = true ∧ ceAt x = a then meshEnd xs (ceEnd x) else none
def endIs (ro : Int) : Option Int → Bool
  | none => false
  | some a => inR ro 1 8 && decide (a = ro * 16)
theorem endIs_some {ro a : Int} (h : inR ro 1 8 = true) : endIs ro (some a) = (a == ro * 16) := by rw [endIs, h, Bool.true_and]; rfl
def meshOk (ro : Int) (l : List Ce) : Bool := endIs ro (meshEnd l 0)
theorem meshEnd_drop {l : List Ce} {j : Nat} (h : j < l.length) (a : Int) : meshEnd (l.drop j) a = if ceOk (gc l j) = true ∧ ceAt (gc l j) = a then meshEnd (l.drop (j + 1)) (ceEnd (gc l j)) else none := by
  rw [List.drop_eq_getElem_cons h, meshEnd, gc_at h]
/-- the first leaf from j on whose right neighbour differs by more than a level, -1 if there is none (d: leaves left) -/
def firstUn (l : List Ce) : Nat → Nat → Int
  | 0, _ => -1
  | d + 1, j => if j + 1 < l.length then (if (gc l j).l - (gc l (j + 1)).l > 1 ∨ (gc l j).l - (gc l (j + 1)).l < -1 then (j : Int) else firstUn l d (j + 1)) else -1
def unbal (l : List Ce) : Int := firstUn l l.length 0
def isBal (ro : Int) (l : List Ce) : Bool := meshOk ro l && decide (unbal l < 0)
/-- every leaf's level is one -/
structure Lvs (l : List Ce) : Prop where mk :: (out : ∀ j, j < l.length → 0 ≤ (gc l j).l ∧ (gc l j).l ≤ 4)
theorem meshEnd_lvs : ∀ (l : List Ce) (a b : Int), meshEnd l a = some b → ∀ x ∈ l, ceOk x = true
  | [], _, _, _, x, hx => by simp at hx
  | y :: ys, a, b, h, x, hx => by
    rw [meshEnd] at h
    split at h
    · rename_i hy
      rcases List.mem_cons.1 hx with rfl | hx
      · exact hy.1
      · exact meshEnd_lvs ys _ _ h x hx
    · cases h
theorem meshOk_all {ro : Int} {l : List Ce} (h : meshOk ro l = true) : ∀ x ∈ l, ceOk x = true := by
  unfold meshOk at h
  cases he : meshEnd l 0 with
  | none => rw [he] at h; cases h
  | some a => exact meshEnd_lvs l 0 a he
theorem gc_mem {l : List Ce} {j : Nat} (h : j < l.length) : gc l j ∈ l := by rw [gc_at h]; exact List.getElem_mem h
theorem meshOk_lvs {ro : Int} {l : List Ce} (h : meshOk ro l = true) : Lvs l := ⟨fun j hj => (ceOk_facts (meshOk_all h _ (gc_mem hj))).2.1⟩
end Go.Proofs.Ytcdibjneoemidaa.U
