
/- MayRefine, MayCoarsen. -/
import Derived.Test.YtaidbdogolhnjaaYh
import Derived.Test.YtaidbdogolhnjaaG15
set_option linter.unusedVariables false
set_option linter.unusedSimpArgs false
namespace Go.Proofs.Ytaidbdogolhnjaa.U
open Go.RowKit Go.Lib Go.Proofs.YtaidbdogolhnjaaW.PrintWords

open Go.Proofs.YtaidbdogolhnjaaW.PrintLast Go.Proofs.YtaidbdogolhnjaaW.PrintMore
theorem FO.baseY {w : World} {base lo t k n : Nat} {v : Value} {F : List Int} (h : FO w base t k v n F) (hb : ∀ q, v.ownBlock = some q → lo ≤ q) : FO w lo t k v n F := ⟨⟨h.out.1, h.out.2.imp id fun ⟨g, cap, cur, e, _, rest⟩ => ⟨g, cap, cur, e, hb g (by rw [e]; rfl), rest⟩⟩⟩
theorem Apart.symmY {v u : Value} (h : Apart v u) : Apart u v := by
  rcases h with h | h
  · cases hu : u.ownBlock with
    | none => exact .inl hu
    | some q => exact .inr (by rw [h, hu]; intro e; cases e)
  · exact .inr (fun e => h e.symm)
theorem BS.of_StO {w : World} {lo hi P : Nat} {s : Sta} {vl vm vt vb : Value} (h : StO w lo hi (.agg #[.int .i64 s.ro, vl, vm, vt, vb]) s) (hP : w.heap[P]? = some (.cells #[.int .i64 s.ro, vl, vm, vt, vb] 29 (0, 0))) (hl : lo ≤ P) : BS w (· < lo) P s vl vm vt vb := by
  obtain ⟨_, _, _, _, e, h1, h2, h3, h4, a1, a2, a3, a4, a5, a6⟩ := h
  simp only [Value.agg.injEq, Array.mk.injEq, List.cons.injEq, and_true, true_and] at e
  obtain ⟨rfl, rfl, rfl, rfl⟩ := e
  have hw := blk_lt hP
  exact ⟨hP, h1.o.less (Nat.zero_le _), h2.o.less (Nat.zero_le _), h3.o.less (Nat.zero_le _), h4.o.less (Nat.zero_le _), a4, a4.symmY, a5.symmY, a6.symmY, by omega, fun q hq => by have := own_base h1.o.out q hq; omega, fun q hq => by have := own_base h2.o.out q hq; omega, fun q hq => by have := own_base h3.o.out q hq; omega, fun q hq => by have := own_base h4.o.out q hq; omega, fun q hq => by omega⟩
theorem BS.sto {w : World} {K : Nat → Prop} {lo P : Nat} {s : Sta} {vl vm vt vb : Value} (h : BS w K P s vl vm vt vb) (hK : ∀ q, q < lo → K q) : StO w lo w.heap.size (.agg #[.int .i64 s.ro, vl, vm, vt, vb]) s := by
  have f : ∀ v : Value, (∀ q, v.ownBlock = some q → ¬ K q) → ∀ q, v.ownBlock = some q → lo ≤ q := fun v hv q hq => by
    rcases Nat.lt_or_ge q lo with h1 | h1
    · exact absurd (hK q h1) (hv q hq)
    · exact h1
  exact ⟨_, _, _, _, rfl, (h.l.baseY (f _ h.kl)).rw, (h.m.baseY (f _ h.km)).rw, (h.t.baseY (f _ h.kt)).rw, (h.b.baseY (f _ h.kb)).rw, own_type_ne h.l.out h.m.out (by decide), own_type_ne h.l.out h.t.out (by decide), own_type_ne h.l.out h.b.out (by decide), h.mt, h.bm.symmY, h.bt.symmY⟩
theorem BS.lits {w : World} {K : Nat → Prop} {P : Nat} {s : Sta} {vl vm vt vb : Value} (h : BS w K P s vl vm vt vb) : ∃ (A0 : Option Addr) (c0 : Nat) (A1 : Option Addr) (c1 : Nat) (A2 : Option Addr) (c2 : Nat) (A3 : Option Addr) (c3 : Nat), vl = .slice A0 s.lv.length c0 ∧ vm = .slice A1 s.ms.length c1 ∧ vt = .slice A2 s.ts.length c2 ∧ vb = .slice A3 s.bd.length c3 := by
  obtain ⟨A0, c0, e0, _, _⟩ := h.l.reads
  obtain ⟨A1, c1, e1, _, _⟩ := h.m.reads
  obtain ⟨A2, c2, e2, _, _⟩ := h.t.reads
  obtain ⟨A3, c3, e3, _, _⟩ := h.b.reads
  exact ⟨_, _, _, _, _, _, _, _, e0, e1, e2, e3⟩
theorem impl_MayRefine (ro : Int) (A : Option Addr) (n c : Nat) (l : List Ce) (i : Nat) (w : World) (r : IdR w A n l) (hok : meshOk ro l = true) (hi : i < n) :
    Calls Try.prog 29 #[.agg #[.int .i64 ro, .slice A n c], .int .i64 i] w fun e w' => e = .returned (.bool (decide ((gc l i).l < 4))) ∧ Bw w w' := by
  have b0 := Bw.box1 w (.cells #[.int .i64 ro, .slice A n c] 26)
  have g0 := box_cell (Bw.refl (w.alloc (.cells #[.int .i64 ro, .slice A n c] 26))) 0
  have g1 := box_cell (Bw.refl (w.alloc (.cells #[.int .i64 ro, .slice A n c] 26))) 1
  simp only [List.getElem?_toArray, List.getElem?_cons_zero, List.getElem?_cons_succ] at g0 g1
  have HOK := hid hok
  have HMX := hid r.max
  have H1 := hid (show inR (i : Int) 0 ((n : Int) - 1) = true from inR_iff.2 (by omega))
  have i4 : (0 : Int) ≤ (i : Int) := by omega
  have i5 : (i : Int) < (n : Int) := by omega
  clear hok
  go_enter Try.func29, Try.ntmps29
  go_wp2_with fail
  refine (impl_MeshOk ro A n c l _ (r.to b0)).mono ?_
  rintro e w1 ⟨rfl, b1⟩
  rw [HOK.out]
  replace g0 := pw_cell_below b1.out g0
  replace g1 := pw_cell_below b1.out g1
  have hB := b0.trans b1
  go_wp2_with fail
  refine (toBool (impl_has ro A n c (i : Int) _ HMX.out) H1.out).mono ?_
  rintro e w2 ⟨rfl, b2⟩
  replace g0 := pw_cell_below b2.out g0
  replace g1 := pw_cell_below b2.out g1
  obtain ⟨ad, rfl, _, x1, _⟩ := (r.to (hB.trans b2)).at i hi
  have HB := hid (hB.trans b2)
  clear b0 b1 b2 hB
  go_wp2
  go_ret
  exact ⟨rfl, HB.out⟩
theorem impl_MayCoarsen (ro : Int) (A : Option Addr) (n c : Nat) (l : List Ce) (i : Nat) (w : World) (r : IdR w A n l) (hok : meshOk ro l = true) (hi : i + 1 < n) (hn : n ≤ 1000) :
    Calls Try.prog 33 #[.agg #[.int .i64 ro, .slice A n c], .int .i64 i] w fun e w' => e = .returned (.bool (mayB l i)) ∧ Bw w w' := by
  have b0 := Bw.box1 w (.cells #[.int .i64 ro, .slice A n c] 26)
  have g0 := box_cell (Bw.refl (w.alloc (.cells #[.int .i64 ro, .slice A n c] 26))) 0
  have g1 := box_cell (Bw.refl (w.alloc (.cells #[.int .i64 ro, .slice A n c] 26))) 1
  simp only [List.getElem?_toArray, List.getElem?_cons_zero, List.getElem?_cons_succ] at g0 g1
  have HOK := hid hok
  have HMX := hid r.max
  have H1 := hid (show inR (i : Int) 0 ((n : Int) - 1) = true from inR_iff.2 (by omega))
  have t1 : decide ((i : Int) ≥ 0) = true := decide_eq_true (by omega)
  have t2 : decide (0 ≤ (i : Int)) = true := decide_eq_true (by omega)
  have t3 : decide (0 ≤ i) = true := decide_eq_true (Nat.zero_le _)
  clear hok
  go_enter Try.func33, Try.ntmps33
  go_wp2_with fail
  refine (impl_MeshOk ro A n c l _ (r.to b0)).mono ?_
  rintro e w1 ⟨rfl, b1⟩
  rw [HOK.out]
  replace g0 := pw_cell_below b1.out g0
  replace g1 := pw_cell_below b1.out g1
  have hB := b0.trans b1
  go_wp2_with fail
  refine (toBool (impl_has ro A n c (i : Int) _ HMX.out) H1.out).mono ?_
  rintro e w2 ⟨rfl, b2⟩
  replace g0 := pw_cell_below b2.out g0
  replace g1 := pw_cell_below b2.out g1
  have HB := hid (hB.trans b2)
  clear b0 b1 b2 hB
  go_wp2_with fail
  refine (impl_mayCoarsen ro A n c l i _ (r.to HB.out) hi hn).mono ?_
  rintro e w3 ⟨rfl, b3⟩
  have hBF := HB.out.trans b3
  clear b3 HB
  obtain ⟨mb, hmb⟩ : ∃ mb, mayB l i = mb := ⟨_, rfl⟩
  rw [hmb]
  have HMB := hid hmb
  clear hmb
  cases mb with
  | false =>
    go_wp2
    go_ret
    exact ⟨ret_bool HMB.out.symm, hBF⟩
  | true =>
    go_wp2
    go_ret
    exact ⟨ret_bool HMB.out.symm, hBF⟩
end Go.Proofs.Ytaidbdogolhnjaa.U
