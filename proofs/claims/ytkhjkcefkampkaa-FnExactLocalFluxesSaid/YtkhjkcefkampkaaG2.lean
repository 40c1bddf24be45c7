
/- Cells: validity, width, start and end, by the program and by the reference. -/
import Derived.Test.YtkhjkcefkampkaaAp
import Derived.Test.YtkhjkcefkampkaaWMore
import Derived.Deep.QuietTactic
import Derived.BigQuiet
import Derived.Deep.RegionHeld3
set_option linter.unusedVariables false
set_option linter.unusedSimpArgs false
namespace Go.Proofs.Ytkhjkcefkampkaa.U
open Go.RowKit Go.Lib Go.Proofs.YtkhjkcefkampkaaW.PrintWords
structure Ce where
 r : Int
 l : Int
 i : Int
deriving DecidableEq, Repr
def pow2 (l : Int) : Int := if l = 0 then 1 else if l = 1 then 2 else if l = 2 then 4 else if l = 3 then 8 else if l = 4 then 16 else 1
def wid (l : Int) : Int := if l = 0 then 16 else if l = 1 then 8 else if l = 2 then 4 else if l = 3 then 2 else if l = 4 then 1 else 0
def ceOk (x : Ce) : Bool := inR x.r 0 7 && inR x.l 0 4 && inR x.i 0 (pow2 x.l - 1)
def ceAt (x : Ce) : Int := if ceOk x = true then x.r * 16 + x.i * wid x.l else -1
def ceEnd (x : Ce) : Int := ceAt x + wid x.l
theorem lvl5 {l : Int} (h : inR l 0 4 = true) : l = 0 ∨ l = 1 ∨ l = 2 ∨ l = 3 ∨ l = 4 := by have := inR_iff.1 h; omega
theorem wid_range (l : Int) : 0 ≤ wid l ∧ wid l ≤ 16 := by unfold wid; (repeat' split) <;> omega
theorem pow2_range (l : Int) : 1 ≤ pow2 l ∧ pow2 l ≤ 16 := by unfold pow2; (repeat' split) <;> omega
theorem ceOk_facts {x : Ce} (h : ceOk x = true) : (0 ≤ x.r ∧ x.r ≤ 7) ∧ (0 ≤ x.l ∧ x.l ≤ 4) ∧ (0 ≤ x.i ∧ x.i ≤ 15) ∧ x.i < pow2 x.l := by
 simp only [ceOk, Bool.and_eq_true, inR_iff] at h
 have := pow2_range x.l
 omega
theorem isLevel (n : Int) (w : World) : Calls Try.prog 103 #[.int .i64 n] w fun e w' => e = .returned (.bool (inR n 0 4)) ∧ w = w' := by
 go_enter Try.func103, Try.ntmps103
 go_wp2_with fail
 refine (within _ _ _ _).mono ?_
 rintro e w' ⟨rfl, rfl⟩
 go_wp2
 go_ret
 exact ⟨rfl, rfl⟩
theorem impl_WidthOf (n : Int) (w : World) : Calls Try.prog 104 #[.int .i64 n] w fun e w' => e = .returned (.int .i64 (wid n)) ∧ w = w' := by
 cases h : inR n 0 4 with
 | false =>
  have h2 := inR_false h
  rw [show wid n = 0 by unfold wid; rw [if_neg (by omega), if_neg (by omega), if_neg (by omega), if_neg (by omega), if_neg (by omega)]]
  have H := hid h; clear h h2
  go_enter Try.func104, Try.ntmps104
  go_wp2_with fail
  refine (isLevel _ _).mono ?_
  rintro e w' ⟨rfl, rfl⟩
  rw [H.out]
  go_wp2
  go_ret
  exact ⟨rfl, rfl⟩
 | true =>
  have lv := lvl5 h
  have H := hid h; clear h
  rcases lv with rfl | rfl | rfl | rfl | rfl
  all_goals
   go_enter Try.func104, Try.ntmps104
   go_wp2_with fail
   refine (isLevel _ _).mono ?_
   rintro e w' ⟨rfl, rfl⟩
   rw [H.out]
   go_wp2
   go_ret
   exact ⟨rfl, rfl⟩
theorem spec_WidthOf (n : Int) (w : World) : Calls Try.prog 123 #[.int .i64 n] w fun e w' => e = .returned (.int .i64 (wid n)) ∧ w = w' := by
 cases h : inR n 0 4 with
 | false =>
  have h2 := inR_false h
  rw [show wid n = 0 by unfold wid; rw [if_neg (by omega), if_neg (by omega), if_neg (by omega), if_neg (by omega), if_neg (by omega)]]
  have H := hid h; clear h h2
  go_enter Try.func123, Try.ntmps123
  go_wp2_with fail
  refine (l01In _ _ _ _).mono ?_
  rintro e w' ⟨rfl, rfl⟩
  rw [H.out]
  go_wp2
  go_ret
  exact ⟨rfl, rfl⟩
 | true =>
  have lv := lvl5 h
  have H := hid h; clear h
  rcases lv with rfl | rfl | rfl | rfl | rfl
  all_goals
   go_enter Try.func123, Try.ntmps123
   go_wp2_with fail
   refine (l01In _ _ _ _).mono ?_
   rintro e w' ⟨rfl, rfl⟩
   rw [H.out]
   go_wp2
   go_ret
   exact ⟨rfl, rfl⟩
theorem quietV {P : Program} {f : FuncId} {args : Array Value} {w : World} {n : Nat} {v : Value} (h : Calls P f args (w.drewN n) fun e w' => e = .returned v ∧ w.drewN n = w') : Calls P f args (w.drewN n) fun e w'' => e = .returned v ∧ ∃ m, w'' = w.drewN m :=
 Calls.quiet_of_same (h.mono fun e w' h => ⟨h.1, h.2.symm⟩)
theorem Bw.boxN (w : World) (o : Obj) (n : Nat) : Bw w ((w.alloc o).drewN n) := ((Bw.refl w).alloc o).trans (Bw.drawn ⟨⟨n, rfl⟩⟩)
theorem Bw.box1 (w : World) (o : Obj) : Bw w (w.alloc o) := (Bw.refl w).alloc o
set_option maxHeartbeats 2000000 in
set_option maxRecDepth 100000 in
theorem impl_IdOk (r l i : Int) (w : World) : Calls Try.prog 91 #[.agg #[.int .i64 r, .int .i64 l, .int .i64 i]] w fun e w' => e = .returned (.bool (ceOk ⟨r, l, i⟩)) ∧ Bw w w' := by
 cases h1 : inR r 0 7 with
 | false =>
  rw [show ceOk ⟨r, l, i⟩ = false by simp [ceOk, h1]]
  go_enter Try.func91, Try.ntmps91
  go_wp2
  go_quiet ((first | (go_at_call 92; exact quietV (within _ _ _ _)) | (go_at_call 103; exact quietV (isLevel _ _))))
  go_wp2
  go_ret
  exact ⟨rfl, Bw.boxN _ _ _⟩
 | true =>
  cases h2 : inR l 0 4 with
  | false =>
   rw [show ceOk ⟨r, l, i⟩ = false by simp [ceOk, h2]]
   go_enter Try.func91, Try.ntmps91
   go_wp2
   go_quiet ((first | (go_at_call 92; exact quietV (within _ _ _ _)) | (go_at_call 103; exact quietV (isLevel _ _))))
   go_wp2
   go_ret
   exact ⟨rfl, Bw.boxN _ _ _⟩
  | true =>
   have lv := lvl5 h2
   have e : ceOk ⟨r, l, i⟩ = inR i 0 (pow2 l - 1) := by simp [ceOk, h1, h2]
   rw [e]
   clear e
   rcases lv with rfl | rfl | rfl | rfl | rfl
   all_goals
    go_enter Try.func91, Try.ntmps91
    go_wp2
    go_quiet ((first | (go_at_call 92; exact quietV (within _ _ _ _)) | (go_at_call 103; exact quietV (isLevel _ _))))
    go_wp2
    go_ret
    exact ⟨rfl, Bw.boxN _ _ _⟩
set_option maxHeartbeats 2000000 in
set_option maxRecDepth 100000 in
theorem spec_IdOk (r l i : Int) (w : World) : Calls Try.prog 85 #[.agg #[.int .i64 r, .int .i64 l, .int .i64 i]] w fun e w' => e = .returned (.bool (ceOk ⟨r, l, i⟩)) ∧ Bw w w' := by
 cases h1 : inR r 0 7 with
 | false =>
  rw [show ceOk ⟨r, l, i⟩ = false by simp [ceOk, h1]]
  have H := hid h1; clear h1
  go_enter Try.func85, Try.ntmps85
  go_wp2_with fail
  refine (toBool (l01In _ _ _ _) H.out).mono ?_
  rintro e w' ⟨rfl, rfl⟩
  go_wp2
  go_ret
  exact ⟨rfl, Bw.box1 _ _⟩
 | true =>
  have H1 := hid h1
  cases h2 : inR l 0 4 with
  | false =>
   rw [show ceOk ⟨r, l, i⟩ = false by simp [ceOk, h2]]
   have H := hid h2; clear h2 h1
   go_enter Try.func85, Try.ntmps85
   go_wp2_with fail
   refine (toBool (l01In _ _ _ _) H1.out).mono ?_
   rintro e w' ⟨rfl, rfl⟩
   go_wp2_with fail
   refine (toBool (l01In _ _ _ _) H.out).mono ?_
   rintro e w' ⟨rfl, rfl⟩
   go_wp2
   go_ret
   exact ⟨rfl, Bw.box1 _ _⟩
  | true =>
   have lv := lvl5 h2
   have H2 := hid h2
   have e : ceOk ⟨r, l, i⟩ = inR i 0 (pow2 l - 1) := by simp [ceOk, h1, h2]
   rw [e]
   clear e h1 h2
   by_cases h4 : 0 ≤ i
   ·have t1 : decide (i ≥ 0) = true := decide_eq_true h4
    rcases lv with rfl | rfl | rfl | rfl | rfl
    all_goals
     have hr : ∀ n : Int, decide (i < n) = inR i 0 (n - 1) := fun n => by rw [Bool.eq_iff_iff, inR_iff, decide_eq_true_iff]; omega
     have HR := hid hr
     clear h4 hr
     go_enter Try.func85, Try.ntmps85
     go_wp2_with fail
     refine (toBool (l01In _ _ _ _) H1.out).mono ?_
     rintro e w' ⟨rfl, rfl⟩
     go_wp2_with fail
     refine (toBool (l01In _ _ _ _) H2.out).mono ?_
     rintro e w' ⟨rfl, rfl⟩
     go_wp2
     go_ret
     exact ⟨ret_bool (HR.out _), Bw.box1 _ _⟩
   ·have t1 : decide (i ≥ 0) = false := decide_eq_false h4
    have hr : inR i 0 (pow2 l - 1) = false := inR_no (by omega)
    rw [hr]
    clear h4 hr
    rcases lv with rfl | rfl | rfl | rfl | rfl
    all_goals
     go_enter Try.func85, Try.ntmps85
     go_wp2_with fail
     refine (toBool (l01In _ _ _ _) H1.out).mono ?_
     rintro e w' ⟨rfl, rfl⟩
     go_wp2_with fail
     refine (toBool (l01In _ _ _ _) H2.out).mono ?_
     rintro e w' ⟨rfl, rfl⟩
     go_wp2
     go_ret
     exact ⟨rfl, Bw.box1 _ _⟩
theorem box_cell {w w1 : World} {t : TypeId} {cs : Array Value} (b : Bw (w.alloc (.cells cs t)) w1) (i : Nat) : w1.cell? ⟨w.heap.size, i, none⟩ = cs[i]? := by
 have h : w1.heap[w.heap.size]? = some (.cells cs t (0, 0)) := (b.out.block _ (by simp)).trans (heap_alloc_new w _)
 exact blk_cell h i
end Go.Proofs.Ytkhjkcefkampkaa.U
set_option linter.unusedVariables false
set_option linter.unusedSimpArgs false
namespace Go.Proofs.Ytkhjkcefkampkaa.U
open Go.RowKit Go.Lib Go.Proofs.YtkhjkcefkampkaaW.PrintWords
structure IdR (w : World) (A : Option Addr) (n : Nat) (l : List Ce) : Prop where mk :: (out : ReadsRow (fun (p : Ce) c => c = [.int .i64 p.r, .int .i64 p.l, .int .i64 p.i]) 3 w A n l)
def cz : Ce := ⟨0, 0, 0⟩
def gc (l : List Ce) (j : Nat) : Ce := l.getD j cz
theorem gc_at {l : List Ce} {j : Nat} (h : j < l.length) : gc l j = l[j] := by rw [gc, List.getD_eq_getElem?_getD, List.getElem?_eq_getElem h]; rfl
theorem IdR.len {w : World} {A : Option Addr} {n : Nat} {l : List Ce} (h : IdR w A n l) : l.length = n := h.out.1
theorem IdR.max {w : World} {A : Option Addr} {n : Nat} {l : List Ce} (h : IdR w A n l) : n ≤ 9223372036854775807 := h.out.2.1
theorem IdR.to {w w' : World} {A : Option Addr} {n : Nat} {l : List Ce} (h : IdR w A n l) (b : Bw w w') : IdR w' A n l := ⟨h.out.imp_ b.out fun _ _ k => k⟩
theorem IdR.at {w : World} {A : Option Addr} {n : Nat} {l : List Ce} (h : IdR w A n l) (j : Nat) (hj : j < n) :
  ∃ ad, A = some ad ∧ w.cell? (ad.add (j * 3)) = some (.int .i64 (gc l j).r) ∧ w.cell? ⟨(ad.add (j * 3)).block, (ad.add (j * 3)).off + 1, none⟩ = some (.int .i64 (gc l j).l) ∧ w.cell? ⟨(ad.add (j * 3)).block, (ad.add (j * 3)).off + 2, none⟩ = some (.int .i64 (gc l j).i) := by
 obtain ⟨ad, c, e, _, rfl, hc⟩ := h.out.get_ cz (j : Int) (by omega) (by omega)
 rw [Int.toNat_natCast] at hc
 exact ⟨ad, e, by have := hc 0 _ rfl; rwa [Nat.add_zero] at this, by have := hc 1 _ rfl; rwa [add_field _ _ _ (by omega)] at this, by have := hc 2 _ rfl; rwa [add_field _ _ _ (by omega)] at this⟩
def meshEnd : List Ce → Int → Option Int
 | [], a => some a
 | x :: xs, a => if ceOk x = true ∧ ceAt x = a then meshEnd xs (ceEnd x) else none
def endIs (ro : Int) : Option Int → Bool
 | none => false
 | some a => inR ro 1 8 && decide (a = ro * 16)
theorem endIs_some {ro a : Int} (h : inR ro 1 8 = true) : endIs ro (some a) = (a == ro * 16) := by rw [endIs, h, Bool.true_and]; rfl
def meshOk (ro : Int) (l : List Ce) : Bool := endIs ro (meshEnd l 0)
def firstUn (l : List Ce) : Nat → Nat → Int
 | 0, _ => -1
 | d + 1, j => if j + 1 < l.length then (if (gc l j).l - (gc l (j + 1)).l > 1 ∨ (gc l j).l - (gc l (j + 1)).l < -1 then (j : Int) else firstUn l d (j + 1)) else -1
def unbal (l : List Ce) : Int := firstUn l l.length 0
def isBal (ro : Int) (l : List Ce) : Bool := meshOk ro l && decide (unbal l < 0)
theorem meshEnd_lvs : ∀ (l : List Ce) (a b : Int), meshEnd l a = some b → ∀ x ∈ l, ceOk x = true
 | [], _, _, _, x, hx => by simp at hx
 | y :: ys, a, b, h, x, hx => by
  rw [meshEnd] at h
  split at h
  ·rename_i hy
   rcases List.mem_cons.1 hx with rfl | hx
   ·exact hy.1
   ·exact meshEnd_lvs ys _ _ h x hx
  ·cases h
theorem meshOk_all {ro : Int} {l : List Ce} (h : meshOk ro l = true) : ∀ x ∈ l, ceOk x = true := by
 unfold meshOk at h
 cases he : meshEnd l 0 with
 | none => rw [he] at h; cases h
 | some a => exact meshEnd_lvs l 0 a he
theorem gc_mem {l : List Ce} {j : Nat} (h : j < l.length) : gc l j ∈ l := by rw [gc_at h]; exact List.getElem_mem h
end Go.Proofs.Ytkhjkcefkampkaa.U
