
/- Copies of an inbox. -/
import Derived.Test.YtcdibjneoemidaaKf
import Derived.Test.YtcdibjneoemidaaKn
import Derived.Test.YtcdibjneoemidaaWInvWords
set_option linter.unusedVariables false
set_option linter.unusedSimpArgs false
namespace Go.Proofs.Ytcdibjneoemidaa.U
open Go.RowKit Go.Lib Go.Proofs.YtcdibjneoemidaaW.PrintWords

open Go.Proofs.YtcdibjneoemidaaW.PrintLast Go.Proofs.YtcdibjneoemidaaW.PrintMore
def l23Copy1T : Bool × List (List Nat × List Nat) := (true, [([], []), ([], []), ([1], [1]), ([0, 2], [0, 2]), ([], []), ([], []), ([5], [5]), ([4, 6, 3], [4, 6]), ([3, 7], [3, 7]), ([8, 7, 0, 1, 2, 3, 4, 5, 6, 7, 8], [8])])
def l23Copy1B : List Nat := [0, 0, 2, 7, 0, 0, 32, 127, 255, 511]
theorem l23Copy1tab : rtab .any (opsOf Try.f29 1) = l23Copy1T := by kernel_rfl
theorem l23Copy1bits : waitsOk l23Copy1T.2 l23Copy1B = true := by kernel_rfl
def deliver1T : Bool × List (List Nat × List Nat) := (true, [([], []), ([0], [0]), ([1], [1]), ([], []), ([3], [3]), ([4, 2], [4]), ([2, 5], [2, 5]), ([], []), ([7, 6, 5, 0, 1, 2, 3, 4, 5, 6, 7], [6, 7])])
def deliver1B : List Nat := [0, 1, 3, 0, 8, 31, 63, 0, 255]
theorem deliver1tab : rtab .any (opsOf Try.f11 1) = deliver1T := by kernel_rfl
theorem deliver1bits : waitsOk deliver1T.2 deliver1B = true := by kernel_rfl
section
variable {P : Program} {ops : Array Oper} {o : Oper} {a : Act} {Q : Exit → Act → World → Prop} {Kc : Act → World → Prop}
theorem lit0K_step {W : World} (hw : Region.wanted o (yielded ops a.tmps) = true) {N : Tmp} (_hd : o.dst = some N) {e k : Nat}
    (hrun : (execOp a.eval o).run P W = .ok (.value (.slice (some ⟨W.heap.size, 0, none⟩) 0 0)) (W.alloc (.cells #[] e)))
    (h : ∀ X y w1, FO w1 W.heap.size e k (.slice X 0 y) 0 [] → Bw W w1 → Kc (a.put o.dst (.slice X 0 y)) w1) : if Region.wanted o (yielded ops a.tmps) = true then Oper.wp P o a W Kc Q else Kc (a.put o.dst undef) W :=
  event_step hw hrun (h _ _ _ ⟨World.ownsRow_lit (base := W.heap.size) (e := e) (size := k) W #[] 0 (Nat.le_refl _) (by simp [maxLen]) (by simp)⟩ ((Bw.refl W).alloc _))
end
theorem FO.putK {w w' : World} {base t k n g : Nat} {v : Value} {F : List Int} {cs : Array Value} {e : TypeId} (h : FO w base t k v n F) (hg : w.heap[g]? = some (.cells cs e (0, 0))) (hne : t ≠ e) (c : Wi w w' g (g + 1)) : FO w' base t k v n F :=
  ⟨own_move h.out fun q hq => c.block q (own_lt h.out q hq) (fun e2 => own_ne h.out hg hne (by rw [hq, show q = g by omega]))⟩
theorem Cn.putK {w w' : World} {base : Nat} {κ : Nat → Nat} {c t k n g : Nat} {v : Value} {F : List Int} {cs : Array Value} {e : TypeId} (h : Cn w base κ c t k v n F) (hg : w.heap[g]? = some (.cells cs e (0, 0))) (hne : t ≠ e) (hw : Wi w w' g (g + 1)) : Cn w' base κ c t k v n F := ⟨h.o.putK hg hne hw, h.col⟩
/-- an own inbox in its box -/
structure DlS (w0 w : World) (P : Nat) (vg ve : Value) (s : Ib) : Prop where
  bx : w.heap[P]? = some (.cells #[vg, ve] 31 (0, 0))
  og : FO w w0.heap.size 3 1 vg s.g.length s.g
  oe : PkO w w0.heap.size ve s.e.length s.e
  ap : Apart vg ve
  bw : Bw w0 w
  lo : w0.heap.size ≤ P
theorem DlS.to {w0 w w' : World} {P : Nat} {vg ve : Value} {s : Ib} (h : DlS w0 w P vg ve s) (b : Bw w w') : DlS w0 w' P vg ve s :=
  ⟨(b.out.block _ (blk_lt h.bx)).trans h.bx, h.og.to b, h.oe.to b, h.ap, h.bw.trans b, h.lo⟩
theorem DlS.ib {w0 w : World} {P : Nat} {vg ve : Value} {s : Ib} (h : DlS w0 w P vg ve s) : IbO w w0.heap.size w.heap.size (.agg #[vg, ve]) s := ⟨vg, ve, rfl, FO.rw h.og, FO.rw h.oe, h.ap⟩
theorem DlS.tk {w0 w : World} {P : Nat} {vg : Value} {B : Option Addr} {d : Nat} {s : Ib} (h : DlS w0 w P vg (.slice B s.e.length d) s) (hd : s.e.length ≤ d) (re : PkR w B s.e.length s.e) : TkS w0 w P vg B d s.g s.e := by
  have hB : ∀ ad, B = some ad → (Value.slice B s.e.length d).ownBlock = some ad.block := fun ad e => by rw [e]; rfl
  refine ⟨h.bx, ⟨h.og.out⟩, re, hd, fun ad e e2 => ?_, fun ad e => own_lt h.oe.out _ (hB ad e), fun ad e e2 => own_ne h.oe.out h.bx (by decide) (by rw [hB ad e, e2]), h.bw, h.lo⟩
  rcases h.ap with h1 | h1
  · rw [h1] at e2; cases e2
  · exact h1 (by rw [hB ad e, ← e2])
/-- behind a store to another box -/
theorem DlS.out {w0 w w' : World} {P R : Nat} {vg ve : Value} {s : Ib} {cs : Array Value} (h : DlS w0 w P vg ve s) (hR : w.heap[R]? = some (.cells cs 31 (0, 0))) (hPR : P ≠ R) (hw : Wi w w' R (R + 1)) (h0 : w0.heap.size ≤ R) : DlS w0 w' P vg ve s :=
  ⟨(hw.block P (blk_lt h.bx) (by omega)).trans h.bx, h.og.putK hR (by decide) hw, FO.putK h.oe hR (by decide) hw, h.ap, h.bw.then_wi hw h0, h.lo⟩

set_option maxHeartbeats 8000000 in
set_option maxRecDepth 100000 in
theorem spec_l23Copy (x : Value) (s : Ib) (w : World) (hx : IbR w x s) (h0 : s.g.length ≤ 1048576) (h1 : s.e.length ≤ 1048576) :
    Calls Try.prog 29 #[x] w fun e w' => ∃ vg ve, e = .returned (.agg #[vg, ve]) ∧ IbO w' w.heap.size w'.heap.size (.agg #[vg, ve]) s ∧ Bw w w' := by
  obtain ⟨A, c, B, d, rfl, r, q, _, _⟩ := hx
  have b0 := (Bw.box1 w (.cells #[.slice A s.g.length c, .slice B s.e.length d] 31)).alloc (.cells #[.slice none 0 0, .slice none 0 0] 31)
  have g0 := box_cell ((Bw.refl (w.alloc (.cells #[.slice A s.g.length c, .slice B s.e.length d] 31))).alloc (.cells #[.slice none 0 0, .slice none 0 0] 31)) 0
  have g1 := box_cell ((Bw.refl (w.alloc (.cells #[.slice A s.g.length c, .slice B s.e.length d] 31))).alloc (.cells #[.slice none 0 0, .slice none 0 0] 31)) 1
  simp only [List.getElem?_toArray, List.getElem?_cons_zero, List.getElem?_cons_succ] at g0 g1
  have hR := heap_alloc_new (w.alloc (.cells #[.slice A s.g.length c, .slice B s.e.length d] 31)) (.cells #[.slice none 0 0, .slice none 0 0] 31 (0, 0))
  rw [show (w.alloc (.cells #[.slice A s.g.length c, .slice B s.e.length d] 31)).heap.size = w.heap.size + 1 by simp] at hR
  go_enter Try.func29, Try.ntmps29
  go_upto_region 1 with fail
  generalize ((w.alloc (.cells #[.slice A s.g.length c, .slice B s.e.length d] 31)).alloc (.cells #[.slice none 0 0, .slice none 0 0] 31)) = W1 at *
  have BW := Aside0.mk (Bw.refl W1)
  have HT_ := Aside0.mk l23Copy1tab
  have HW_ := Aside0.mk l23Copy1bits
  refine start_ (n := 10) (S := fun w' => True) (ds := []) #[false, false, false, false, false, false, false, false, false, false] (by kernel_rfl) rfl rfl trivial (fun hHeld => ?_)
  refine pure_ (i := 1) (N := some 4) (v := ?_) (a' := ?_) #[false, true, false, false, false, false, false, false, false, false] rfl rfl (by kernel_rfl) (fun _ _ _ h => h) (Or.inl ⟨by rfl, ?_⟩) ?_ ?_
  rotate_left
  · intro w'
    go_simp
    with_reducible rfl
  rotate_left
  · simp only [Act.put, List.setIfInBounds_toArray, List.set_cons_zero, List.set_cons_succ, i64_w, i32_w]
    rfl
  refine pure_ (i := 5) (N := some 8) (v := ?_) (a' := ?_) #[false, true, false, false, false, true, false, false, false, false] rfl rfl (by kernel_rfl) (fun _ _ _ h => h) (Or.inl ⟨by rfl, ?_⟩) ?_ ?_
  rotate_left
  · intro w'
    go_simp
    with_reducible rfl
  rotate_left
  · simp only [Act.put, List.setIfInBounds_toArray, List.set_cons_zero, List.set_cons_succ, i64_w, i32_w]
    rfl
  refine inv_at [0, 2, 3, 4, 6, 7, 8, 9] (fun a0_ b a w' => ∃ (κ : Nat → Nat) (z0 : Value) (z3 : Value) (z4 : Value) (z7 : Value) (m8_ : Value), a = putSel a0_ b [(0, 3, z0), (2, 5, .slice A s.g.length c), (3, 6, z3), (4, 7, z4), (6, 9, .slice B s.e.length d), (7, 10, z7), (8, 11, m8_)] ∧ (b 9 = false → Bw W1 w') ∧ (b 0 = true → b 3 = false → Cn w' W1.heap.size κ 0 3 1 z0 0 []) ∧ (b 3 = true → Cn w' W1.heap.size κ 0 3 1 z3 s.g.length s.g) ∧ (b 4 = true → b 7 = false → Cn w' W1.heap.size κ 1 34 2 z4 0 []) ∧ (b 7 = true → Cn w' W1.heap.size κ 1 34 2 z7 s.e.length (pkF s.e)) ∧ (b 9 = true → w'.heap[w.heap.size + 1]? = some (.cells #[z3, z7] 31 (0, 0))) ∧ (b 9 = true → Bw w w') ∧ (b 8 = true → (m8_ : Value) = .agg #[z3, z7])) HT_.out HW_.out (by kernel_rfl) (by kernel_rfl) ?_ ?_ ?_
  · exact ⟨fun _ => 0, .slice none 0 0, .slice none 0 0, .slice none 0 0, .slice none 0 0, .bool false, by simp only [putSel, Bool.false_eq_true, if_false], fun _ => BW.out.trans (Bw.drawn ⟨⟨1, rfl⟩⟩), fun h_ => absurd h_ (by decide), fun h_ => absurd h_ (by decide), fun h_ => absurd h_ (by decide), fun h_ => absurd h_ (by decide), fun h_ => absurd h_ (by decide), fun h_ => absurd h_ (by decide), fun h_ => absurd h_ (by decide)⟩
  · skip
    clear BW
    refine steps_cons ?_ ?_
    · rintro b a w' ⟨κ, z0, z3, z4, z7, m8_, ha, Q_BW, Q_L0, Q_R3, Q_L4, Q_R7, Q_HF, Q_BF, Q_X8_⟩ hb_ hon hoff
      refine ⟨_, rfl, fun K hK => ?_⟩
      replace ha := Aside0.mk ha
      have BW := Aside0.mk (Q_BW (hoff 9 (by kernel_rfl)))
      have hsz : W1.heap.size ≤ w'.heap.size := BW.out.size
      refine lit0K_step (N := 3) (e := 3) (k := 1) ?hg ?hd ?hr ?_; (case hd => rfl); (case hg => rfl); (case hr => first | (go_simp; done) | (go_simp; rfl))
      intro XL yL wL oL bL
      refine hK.out _ _ ⟨(paint κ w'.heap.size 0), (.slice XL 0 yL), z3, z4, z7, m8_, (by rw [ha.out]; exact putSel_upk 0 hb_ rfl rfl rfl), fun _ => BW.out.trans bL, fun _ _ => oL.cn hsz, fun h0_ => absurd ((hoff 3 (by kernel_rfl)).symm.trans h0_) (by decide), fun h0_ h1_ => (Q_L4 h0_ h1_).to bL 0, fun h0_ => absurd ((hoff 7 (by kernel_rfl)).symm.trans h0_) (by decide), fun h0_ => absurd ((hoff 9 (by kernel_rfl)).symm.trans h0_) (by decide), fun h0_ => absurd ((hoff 9 (by kernel_rfl)).symm.trans h0_) (by decide), fun h0_ => absurd ((hoff 8 (by kernel_rfl)).symm.trans h0_) (by decide)⟩
    refine steps_cons ?_ ?_
    · rintro b a w' ⟨κ, z0, z3, z4, z7, m8_, ha, Q_BW, Q_L0, Q_R3, Q_L4, Q_R7, Q_HF, Q_BF, Q_X8_⟩ hb_ hon hoff
      refine ⟨_, rfl, fun K hK => ?_⟩
      have e4 : a.tmps[4]? = some (.pointer (some ⟨w.heap.size, 0, none⟩)) := by rw [ha]; exact (putSel_off rfl).trans rfl
      replace ha := Aside0.mk ha
      have BW := Aside0.mk (Q_BW (hoff 9 (by kernel_rfl)))
      have hc_ := pw_cell_below BW.out.out g0
      refine value_ (w1 := w') (v := .slice A s.g.length c) (by rfl) rfl ?_ ?_
      · go_simp
        (try simp only [i64_w])
        try rfl
      refine hK.out _ _ ⟨κ, z0, z3, z4, z7, m8_, (by rw [ha.out]; exact putSel_upk 1 hb_ rfl rfl rfl), Q_BW, Q_L0, fun h0_ => absurd ((hoff 3 (by kernel_rfl)).symm.trans h0_) (by decide), Q_L4, fun h0_ => absurd ((hoff 7 (by kernel_rfl)).symm.trans h0_) (by decide), fun h0_ => absurd ((hoff 9 (by kernel_rfl)).symm.trans h0_) (by decide), fun h0_ => absurd ((hoff 9 (by kernel_rfl)).symm.trans h0_) (by decide), fun h0_ => absurd ((hoff 8 (by kernel_rfl)).symm.trans h0_) (by decide)⟩
    refine steps_cons ?_ ?_
    · rintro b a w' ⟨κ, z0, z3, z4, z7, m8_, ha, Q_BW, Q_L0, Q_R3, Q_L4, Q_R7, Q_HF, Q_BF, Q_X8_⟩ hb_ hon hoff
      refine ⟨_, rfl, fun K hK => ?_⟩
      have e3 : a.tmps[3]? = some (z0) := by rw [ha]; exact putSel_on (e := (0, 3, z0)) 0 rfl rfl (hon 0 (by kernel_rfl)) rfl
      have e5 : a.tmps[5]? = some (.slice A s.g.length c) := by rw [ha]; exact putSel_on (e := (2, 5, .slice A s.g.length c)) 1 rfl rfl (hon 2 (by kernel_rfl)) rfl
      replace ha := Aside0.mk ha
      have BW := Aside0.mk (Q_BW (hoff 9 (by kernel_rfl)))
      have L0 := Aside0.mk (Q_L0 (hon 0 (by kernel_rfl)) hb_)
      have hsz : W1.heap.size ≤ w'.heap.size := BW.out.size
      have hle := Nat.le_refl W1.heap.size
      refine appendInts_step (w0 := W1) W1.heap.size (by rfl) (.tmp 3) (.tmp 5) rfl z0 [] s.g A s.g.length c (by simp only [Act.eval, Array.getD_eq_getD_getElem?, Option.getD_some, e3]) (by simp only [Act.eval, Array.getD_eq_getD_getElem?, Option.getD_some, e5]) ⟨L0.out.o.out⟩ ((r.to b0).to BW.out) BW.out.out hsz (by simp; omega) ?_
      intro v1 w8 ho8 hB8 hg8 ha8
      have ho9 : FO w8 W1.heap.size 3 1 v1 s.g.length s.g := by simpa using (show FO w8 W1.heap.size 3 1 v1 _ _ from ⟨ho8.out⟩)
      refine hK.out _ _ ⟨(paint κ w'.heap.size 0), z0, v1, z4, z7, m8_, (by rw [ha.out]; exact putSel_upk 2 hb_ rfl rfl rfl), fun _ => L0.out.bw hg8 BW.out hle, fun _ h1_ => absurd ((up_self b 3).symm.trans h1_) (by decide), fun _ => L0.out.app ho9 ha8, fun h0_ h1_ => (Q_L4 h0_ h1_).grown L0.out (by decide) hg8 0, fun h0_ => absurd ((hoff 7 (by kernel_rfl)).symm.trans h0_) (by decide), fun h0_ => absurd ((hoff 9 (by kernel_rfl)).symm.trans h0_) (by decide), fun h0_ => absurd ((hoff 9 (by kernel_rfl)).symm.trans h0_) (by decide), fun h0_ => absurd ((hoff 8 (by kernel_rfl)).symm.trans h0_) (by decide)⟩
    refine steps_cons ?_ ?_
    · rintro b a w' ⟨κ, z0, z3, z4, z7, m8_, ha, Q_BW, Q_L0, Q_R3, Q_L4, Q_R7, Q_HF, Q_BF, Q_X8_⟩ hb_ hon hoff
      refine ⟨_, rfl, fun K hK => ?_⟩
      replace ha := Aside0.mk ha
      have BW := Aside0.mk (Q_BW (hoff 9 (by kernel_rfl)))
      have hsz : W1.heap.size ≤ w'.heap.size := BW.out.size
      refine lit0K_step (N := 7) (e := 34) (k := 2) ?hg ?hd ?hr ?_; (case hd => rfl); (case hg => rfl); (case hr => first | (go_simp; done) | (go_simp; rfl))
      intro XL yL wL oL bL
      refine hK.out _ _ ⟨(paint κ w'.heap.size 1), z0, z3, (.slice XL 0 yL), z7, m8_, (by rw [ha.out]; exact putSel_upk 3 hb_ rfl rfl rfl), fun _ => BW.out.trans bL, fun h0_ h1_ => (Q_L0 h0_ h1_).to bL 1, fun h0_ => (Q_R3 h0_).to bL 1, fun _ _ => oL.cn hsz, fun h0_ => absurd ((hoff 7 (by kernel_rfl)).symm.trans h0_) (by decide), fun h0_ => absurd ((hoff 9 (by kernel_rfl)).symm.trans h0_) (by decide), fun h0_ => absurd ((hoff 9 (by kernel_rfl)).symm.trans h0_) (by decide), fun h0_ => absurd ((hoff 8 (by kernel_rfl)).symm.trans h0_) (by decide)⟩
    refine steps_cons ?_ ?_
    · rintro b a w' ⟨κ, z0, z3, z4, z7, m8_, ha, Q_BW, Q_L0, Q_R3, Q_L4, Q_R7, Q_HF, Q_BF, Q_X8_⟩ hb_ hon hoff
      refine ⟨_, rfl, fun K hK => ?_⟩
      have e8 : a.tmps[8]? = some (.pointer (some ⟨w.heap.size, 1, none⟩)) := by rw [ha]; exact (putSel_off rfl).trans rfl
      replace ha := Aside0.mk ha
      have BW := Aside0.mk (Q_BW (hoff 9 (by kernel_rfl)))
      have hc_ := pw_cell_below BW.out.out g1
      refine value_ (w1 := w') (v := .slice B s.e.length d) (by rfl) rfl ?_ ?_
      · go_simp
        (try simp only [i64_w])
        try rfl
      refine hK.out _ _ ⟨κ, z0, z3, z4, z7, m8_, (by rw [ha.out]; exact putSel_upk 4 hb_ rfl rfl rfl), Q_BW, Q_L0, Q_R3, Q_L4, fun h0_ => absurd ((hoff 7 (by kernel_rfl)).symm.trans h0_) (by decide), fun h0_ => absurd ((hoff 9 (by kernel_rfl)).symm.trans h0_) (by decide), fun h0_ => absurd ((hoff 9 (by kernel_rfl)).symm.trans h0_) (by decide), fun h0_ => absurd ((hoff 8 (by kernel_rfl)).symm.trans h0_) (by decide)⟩
    refine steps_cons ?_ ?_
    · rintro b a w' ⟨κ, z0, z3, z4, z7, m8_, ha, Q_BW, Q_L0, Q_R3, Q_L4, Q_R7, Q_HF, Q_BF, Q_X8_⟩ hb_ hon hoff
      refine ⟨_, rfl, fun K hK => ?_⟩
      have e7 : a.tmps[7]? = some (z4) := by rw [ha]; exact putSel_on (e := (4, 7, z4)) 3 rfl rfl (hon 4 (by kernel_rfl)) rfl
      have e9 : a.tmps[9]? = some (.slice B s.e.length d) := by rw [ha]; exact putSel_on (e := (6, 9, .slice B s.e.length d)) 4 rfl rfl (hon 6 (by kernel_rfl)) rfl
      replace ha := Aside0.mk ha
      have BW := Aside0.mk (Q_BW (hoff 9 (by kernel_rfl)))
      have R3 := Aside0.mk (Q_R3 (hon 3 (by kernel_rfl)))
      have L4 := Aside0.mk (Q_L4 (hon 4 (by kernel_rfl)) hb_)
      have hsz : W1.heap.size ≤ w'.heap.size := BW.out.size
      have hle := Nat.le_refl W1.heap.size
      refine appendPks_step (w0 := W1) W1.heap.size (by rfl) (.tmp 7) (.tmp 9) rfl z4 [] s.e B s.e.length d (by simp only [Act.eval, Array.getD_eq_getD_getElem?, Option.getD_some, e7]) (by simp only [Act.eval, Array.getD_eq_getD_getElem?, Option.getD_some, e9]) L4.out.o ((q.to b0).to BW.out) BW.out.out hsz (by simp; omega) ?_
      intro v1 w8 ho8 hB8 hg8 ha8
      have ho9 : FO w8 W1.heap.size 34 2 v1 s.e.length (pkF s.e) := by simpa using ho8
      refine hK.out _ _ ⟨(paint κ w'.heap.size 1), z0, z3, z4, v1, m8_, (by rw [ha.out]; exact putSel_upk 5 hb_ rfl rfl rfl), fun _ => L4.out.bw hg8 BW.out hle, fun _ h1_ => absurd ((hon 3 (by kernel_rfl)).symm.trans h1_) (by decide), fun _ => R3.out.grown L4.out (by decide) hg8 1, fun _ h1_ => absurd ((up_self b 7).symm.trans h1_) (by decide), fun _ => L4.out.app ho9 ha8, fun h0_ => absurd ((hoff 9 (by kernel_rfl)).symm.trans h0_) (by decide), fun h0_ => absurd ((hoff 9 (by kernel_rfl)).symm.trans h0_) (by decide), fun h0_ => absurd ((hoff 8 (by kernel_rfl)).symm.trans h0_) (by decide)⟩
    refine steps_cons ?_ ?_
    · rintro b a w' ⟨κ, z0, z3, z4, z7, m8_, ha, Q_BW, Q_L0, Q_R3, Q_L4, Q_R7, Q_HF, Q_BF, Q_X8_⟩ hb_ hon hoff
      refine ⟨_, rfl, fun K hK => ?_⟩
      have e6 : a.tmps[6]? = some (z3) := by rw [ha]; exact putSel_on (e := (3, 6, z3)) 2 rfl rfl (hon 3 (by kernel_rfl)) rfl
      have e10 : a.tmps[10]? = some (z7) := by rw [ha]; exact putSel_on (e := (7, 10, z7)) 5 rfl rfl (hon 7 (by kernel_rfl)) rfl
      replace ha := Aside0.mk ha
      have BW := Aside0.mk (Q_BW (hoff 9 (by kernel_rfl)))
      have R3 := Aside0.mk (Q_R3 (hon 3 (by kernel_rfl)))
      have R7 := Aside0.mk (Q_R7 (hon 7 (by kernel_rfl)))
      obtain ⟨Xz3_, yz3_, e_, _, _⟩ := R3.out.o.reads
      subst e_
      obtain ⟨Xz7_, yz7_, e_, _, _⟩ := R7.out.o.reads
      subst e_
      refine value_ (w1 := w') (v := .agg #[(.slice Xz3_ s.g.length yz3_), (.slice Xz7_ s.e.length yz7_)]) (by rfl) rfl ?_ ?_
      · go_simp
        (try simp only [i64_w])
        try rfl
      refine hK.out _ _ ⟨κ, z0, (.slice Xz3_ s.g.length yz3_), z4, (.slice Xz7_ s.e.length yz7_), (.agg #[(.slice Xz3_ s.g.length yz3_), (.slice Xz7_ s.e.length yz7_)]), (by rw [ha.out]; exact putSel_upk 6 hb_ rfl rfl rfl), Q_BW, fun _ h1_ => absurd ((hon 3 (by kernel_rfl)).symm.trans h1_) (by decide), Q_R3, fun _ h1_ => absurd ((hon 7 (by kernel_rfl)).symm.trans h1_) (by decide), Q_R7, fun h0_ => absurd ((hoff 9 (by kernel_rfl)).symm.trans h0_) (by decide), fun h0_ => absurd ((hoff 9 (by kernel_rfl)).symm.trans h0_) (by decide), fun _ => rfl⟩
    refine steps_cons ?_ ?_
    · rintro b a w' ⟨κ, z0, z3, z4, z7, m8_, ha, Q_BW, Q_L0, Q_R3, Q_L4, Q_R7, Q_HF, Q_BF, Q_X8_⟩ hb_ hon hoff
      refine ⟨_, rfl, fun K hK => ?_⟩
      have e2 : a.tmps[2]? = some (.pointer (some ⟨w.heap.size + 1, 0, none⟩)) := by rw [ha]; exact (putSel_off rfl).trans rfl
      have e11 : a.tmps[11]? = some (m8_) := by rw [ha]; exact putSel_on (e := (8, 11, m8_)) 6 rfl rfl (hon 8 (by kernel_rfl)) rfl
      rw [Q_X8_ (hon 8 (by kernel_rfl))] at e11
      replace ha := Aside0.mk ha
      have BW := Aside0.mk (Q_BW hb_)
      have R3 := Aside0.mk (Q_R3 (hon 3 (by kernel_rfl)))
      have R7 := Aside0.mk (Q_R7 (hon 7 (by kernel_rfl)))
      obtain ⟨Xz3_, yz3_, e_, _, _⟩ := R3.out.o.reads
      subst e_
      obtain ⟨Xz7_, yz7_, e_, _, _⟩ := R7.out.o.reads
      subst e_
      have hRk := (BW.out.out.block _ (blk_lt hR)).trans hR
      have hs0_ := (blk_cell hRk 0).trans (show _ = some (Value.slice none 0 0) from rfl)
      have hf0_ := blk_frozen hRk 0
      have hs1_ := (blk_cell hRk 1).trans (show _ = some (Value.slice none 0 0) from rfl)
      have hf1_ := blk_frozen hRk 1
      have hwi : Wi w' ((w'.setCell ⟨w.heap.size + 1, 0, none⟩ ((.slice Xz3_ s.g.length yz3_))).setCell ⟨w.heap.size + 1, 1, none⟩ ((.slice Xz7_ s.e.length yz7_))) (w.heap.size + 1) (w.heap.size + 1 + 1) := ((Wi.refl w' (w.heap.size + 1) (w.heap.size + 1 + 1)).trans (Wi.set1 _ _ 0 ((.slice Xz3_ s.g.length yz3_)))).trans (Wi.set1 _ _ 1 ((.slice Xz7_ s.e.length yz7_)))
      have hFF : ((w'.setCell ⟨w.heap.size + 1, 0, none⟩ ((.slice Xz3_ s.g.length yz3_))).setCell ⟨w.heap.size + 1, 1, none⟩ ((.slice Xz7_ s.e.length yz7_))).heap[w.heap.size + 1]? = some (.cells #[(.slice Xz3_ s.g.length yz3_), (.slice Xz7_ s.e.length yz7_)] 31 (0, 0)) := (blk_set (blk_set hRk 0 ((.slice Xz3_ s.g.length yz3_))) 1 ((.slice Xz7_ s.e.length yz7_)))
      have hwi2 := Aside0.mk hwi
      have hFF2 := Aside0.mk hFF
      clear hwi hFF
      refine skip_ (w1 := ?_) (by rfl) rfl ?_ ?_
      rotate_left
      · go_simp
        rfl
      have hwi := hwi2.out
      refine hK.out _ _ ⟨κ, z0, (.slice Xz3_ s.g.length yz3_), z4, (.slice Xz7_ s.e.length yz7_), m8_, (by rw [ha.out]; exact putSel_none (v := undef) rfl), fun h0_ => absurd ((up_self b 9).symm.trans h0_) (by decide), fun _ h1_ => absurd ((hon 3 (by kernel_rfl)).symm.trans h1_) (by decide), fun _ => R3.out.putK hRk (by decide) hwi, fun _ h1_ => absurd ((hon 7 (by kernel_rfl)).symm.trans h1_) (by decide), fun _ => R7.out.putK hRk (by decide) hwi, fun _ => hFF2.out, fun _ => (b0.trans BW.out).then_wi hwi (by omega), Q_X8_⟩
    exact steps_nil
  rintro b a w' hall ⟨κ, z0, z3, z4, z7, m8_, ha, Q_BW, Q_L0, Q_R3, Q_L4, Q_R7, Q_HF, Q_BF, Q_X8_⟩
  clear BW
  have hb0_ := hall 0 (by kernel_rfl)
  have hb2_ := hall 2 (by kernel_rfl)
  have hb3_ := hall 3 (by kernel_rfl)
  have hb4_ := hall 4 (by kernel_rfl)
  have hb6_ := hall 6 (by kernel_rfl)
  have hb7_ := hall 7 (by kernel_rfl)
  have hb8_ := hall 8 (by kernel_rfl)
  have hb9_ := hall 9 (by kernel_rfl)
  subst ha
  obtain rfl := Q_X8_ hb8_
  simp only [putSel, hb0_, hb2_, hb3_, hb4_, hb6_, hb7_, hb8_, hb9_, if_true, Act.put, List.setIfInBounds_toArray, List.set_cons_zero, List.set_cons_succ]
  clear Q_BW
  clear Q_L0
  have R3 := Aside0.mk (Q_R3 hb3_)
  clear Q_R3
  clear Q_L4
  have R7 := Aside0.mk (Q_R7 hb7_)
  clear Q_R7
  have HF := Aside0.mk (Q_HF hb9_)
  clear Q_HF
  have BF := Aside0.mk (Q_BF hb9_)
  clear Q_BF
  clear hall hb0_ hb2_ hb3_ hb4_ hb6_ hb7_ hb8_ hb9_
  obtain ⟨X0, y0, rfl, _, _⟩ := R3.out.o.reads
  obtain ⟨X1, y1, rfl, _, _⟩ := R7.out.o.reads
  have hb0 := b0.size
  have HST := hid (show IbO w' w.heap.size w'.heap.size (.agg #[.slice X0 s.g.length y0, .slice X1 s.e.length y1]) s from ⟨_, _, rfl, (FO.less R3.out.o hb0).rw, (FO.less R7.out.o hb0).rw, R3.out.apart R7.out (by decide)⟩)
  go_wp2
  refine bodyPost_ret (results_cell_row rfl _ _ (w.heap.size + 1) 31 #[.slice X0 s.g.length y0, .slice X1 s.e.length y1] (0, 0) _ rfl HF.out Try.underlying31 rfl (by kernel_rfl)) rfl ?_
  exact ⟨_, _, rfl, HST.out, BF.out⟩
end Go.Proofs.Ytcdibjneoemidaa.U
