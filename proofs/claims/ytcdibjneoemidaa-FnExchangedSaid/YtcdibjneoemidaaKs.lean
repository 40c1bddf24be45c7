
/- Inboxes in their boxes. -/
import Derived.Test.YtcdibjneoemidaaKo
set_option linter.unusedVariables false
set_option linter.unusedSimpArgs false
namespace Go.Proofs.Ytcdibjneoemidaa.U
open Go.RowKit Go.Lib Go.Proofs.YtcdibjneoemidaaW.PrintWords

open Go.Proofs.YtcdibjneoemidaaW.PrintLast Go.Proofs.YtcdibjneoemidaaW.PrintMore
theorem ibR_g {w : World} {A B : Option Addr} {n m c d : Nat} {s : Ib} (h : IbR w (.agg #[.slice A n c, .slice B m d]) s) : RI w A n s.g := by
  obtain ⟨A2, c2, B2, d2, e, r, q, _, _⟩ := h
  cases e
  exact r
theorem ibR_e {w : World} {A B : Option Addr} {n m c d : Nat} {s : Ib} (h : IbR w (.agg #[.slice A n c, .slice B m d]) s) : PkR w B m s.e := by
  obtain ⟨A2, c2, B2, d2, e, r, q, _, _⟩ := h
  cases e
  exact q
open Go.Proofs.YtcdibjneoemidaaW.PrintLast Go.Proofs.YtcdibjneoemidaaW.PrintMore
theorem impl_Del (x : Value) (s : Ib) (pq pv : Int) (R : Ib) (w : World) (hx : IbR w x s) (hn : s.g.length ≤ 1048576 ∧ s.e.length ≤ 1048576) (hR : delS s ⟨pq, pv⟩ = R) :
    Calls Try.prog 11 #[x, .agg #[.int .i64 pq, .int .i64 pv]] w fun e w' => ∃ X y U v, e = .returned (.agg #[.slice X R.g.length y, .slice U R.e.length v]) ∧ IbO w' w.heap.size w'.heap.size (.agg #[.slice X R.g.length y, .slice U R.e.length v]) R ∧ Bw w w' := by
  refine (impl_Deliver x s ⟨pq, pv⟩ w hx hn.1 hn.2).mono ?_
  rw [hR]
  rintro e w' ⟨vg, ve, rfl, o, b⟩
  obtain ⟨_, _, ee, og, oe, ap⟩ := o
  cases ee
  obtain ⟨X, y, rfl, _, _⟩ := og.reads
  obtain ⟨U, v, rfl, _, _⟩ := oe.reads
  exact ⟨X, y, U, v, rfl, ⟨_, _, rfl, og, oe, ap⟩, b⟩
theorem spec_Del (x : Value) (s : Ib) (pq pv : Int) (R : Ib) (w : World) (hx : IbR w x s) (hn : s.g.length ≤ 1048576 ∧ s.e.length ≤ 1048576) (hR : delS s ⟨pq, pv⟩ = R) :
    Calls Try.prog 8 #[x, .agg #[.int .i64 pq, .int .i64 pv]] w fun e w' => ∃ X y U v, e = .returned (.agg #[.slice X R.g.length y, .slice U R.e.length v]) ∧ IbO w' w.heap.size w'.heap.size (.agg #[.slice X R.g.length y, .slice U R.e.length v]) R ∧ Bw w w' := by
  refine (spec_Deliver x s ⟨pq, pv⟩ w hx hn.1 hn.2).mono ?_
  rw [hR]
  rintro e w' ⟨vg, ve, rfl, o, b⟩
  obtain ⟨_, _, ee, og, oe, ap⟩ := o
  cases ee
  obtain ⟨X, y, rfl, _, _⟩ := og.reads
  obtain ⟨U, v, rfl, _, _⟩ := oe.reads
  exact ⟨X, y, U, v, rfl, ⟨_, _, rfl, og, oe, ap⟩, b⟩
theorem DlS.next {w0 W w' : World} {P lo hi : Nat} {vg ve vg' ve' : Value} {s R : Ib} (h : DlS w0 W P vg ve s) (b : Bw W w') (o : IbO w' lo hi (.agg #[vg', ve']) R) (hlo : w0.heap.size ≤ lo) : DlS w0 ((w'.setCell ⟨P, 0, none⟩ vg').setCell ⟨P, 1, none⟩ ve') P vg' ve' R := by
  obtain ⟨_, _, ee, og, oe, ap⟩ := o
  cases ee
  have hb := (b.out.block _ (blk_lt h.bx)).trans h.bx
  have hw : Wi w' ((w'.setCell ⟨P, 0, none⟩ vg').setCell ⟨P, 1, none⟩ ve') P (P + 1) := ((Wi.refl w' _ _).trans (Wi.set1 _ _ 0 _)).trans (Wi.set1 _ _ 1 _)
  exact ⟨blk_set (blk_set hb 0 _) 1 _, FO.putK (FO.less og.o hlo) hb (by decide) hw, FO.putK (FO.less oe.o hlo) hb (by decide) hw, ap, (h.bw.trans b).then_wi hw h.lo, h.lo⟩
theorem DlS.zero (W : World) : DlS W (W.alloc (.cells #[.slice none 0 0, .slice none 0 0] 31)) W.heap.size (.slice none 0 0) (.slice none 0 0) ⟨[], []⟩ :=
  ⟨heap_alloc_new W (.cells #[.slice none 0 0, .slice none 0 0] 31 (0, 0)), FO.nil _ _ _ _, FO.nil _ _ _ _, .inl rfl, Bw.box1 _ _, Nat.le_refl _⟩
theorem rd_mem {l : List Int} {j : Nat} (h : j < l.length) : rd l (j : Int) ∈ l := by
  rw [rd_nat, List.getD_eq_getElem?_getD, List.getElem?_eq_getElem h]
  exact List.getElem_mem h
end Go.Proofs.Ytcdibjneoemidaa.U
