
/- Parents and siblings. -/
import Derived.Test.YtaidbdogolhnjaaYd
import Derived.Test.YtaidbdogolhnjaaG13
set_option linter.unusedVariables false
set_option linter.unusedSimpArgs false
namespace Go.Proofs.Ytaidbdogolhnjaa.U
open Go.RowKit Go.Lib Go.Proofs.YtaidbdogolhnjaaW.PrintWords

open Go.Proofs.YtaidbdogolhnjaaW.PrintLast Go.Proofs.YtaidbdogolhnjaaW.PrintMore
/-- a state of the call's own, in its box -/
def BX (w : World) (K : Nat → Prop) (P : Nat) (s : Sta) : Prop := ∃ vl vm vt vb, BS w K P s vl vm vt vb
def hasPar (x : Ce) : Bool := ceOk x && !(x.l == 0)
def parC (x : Ce) : Ce := if hasPar x = true then ⟨x.r, x.l - 1, Int.tdiv x.i 2⟩ else ⟨0, 0, 0⟩

set_option maxHeartbeats 4000000 in
theorem impl_ParentOf (x : Ce) (w : World) :
    Calls Try.prog 92 #[.agg #[.int .i64 x.r, .int .i64 x.l, .int .i64 x.i]] w fun e w' => e = .returned (.tuple #[.agg #[.int .i64 (parC x).r, .int .i64 (parC x).l, .int .i64 (parC x).i], .bool (hasPar x)]) ∧ Bw w w' := by
  obtain ⟨q0, q1, q2⟩ := x
  have b0 := (Bw.box1 w (.cells #[.int .i64 q0, .int .i64 q1, .int .i64 q2] 58)).alloc (.cells #[.int .i64 0, .int .i64 0, .int .i64 0] 58)
  have g0 := box_cell ((Bw.refl (w.alloc (.cells #[.int .i64 q0, .int .i64 q1, .int .i64 q2] 58))).alloc (.cells #[.int .i64 0, .int .i64 0, .int .i64 0] 58)) 0
  have g1 := box_cell ((Bw.refl (w.alloc (.cells #[.int .i64 q0, .int .i64 q1, .int .i64 q2] 58))).alloc (.cells #[.int .i64 0, .int .i64 0, .int .i64 0] 58)) 1
  have g2 := box_cell ((Bw.refl (w.alloc (.cells #[.int .i64 q0, .int .i64 q1, .int .i64 q2] 58))).alloc (.cells #[.int .i64 0, .int .i64 0, .int .i64 0] 58)) 2
  simp only [List.getElem?_toArray, List.getElem?_cons_zero, List.getElem?_cons_succ] at g0 g1 g2
  have H4 := heap_alloc_new (w.alloc (.cells #[.int .i64 q0, .int .i64 q1, .int .i64 q2] 58)) (.cells #[.int .i64 0, .int .i64 0, .int .i64 0] 58 (0, 0))
  rw [show (w.alloc (.cells #[.int .i64 q0, .int .i64 q1, .int .i64 q2] 58)).heap.size = w.heap.size + 1 by simp] at H4
  cases hc : ceOk ⟨q0, q1, q2⟩ with
  | false =>
    have HP := hid (show hasPar ⟨q0, q1, q2⟩ = false by rw [hasPar, hc]; rfl)
    have HQ := hid (show parC ⟨q0, q1, q2⟩ = ⟨0, 0, 0⟩ by rw [parC, HP.out]; rfl)
    have HC := hid hc
    clear hc
    rw [HQ.out, HP.out]
    go_enter Try.func92, Try.ntmps92
    go_wp2_with fail
    generalize ((w.alloc (.cells #[.int .i64 q0, .int .i64 q1, .int .i64 q2] 58)).alloc (.cells #[.int .i64 0, .int .i64 0, .int .i64 0] 58)) = w1 at *
    refine (impl_IdOk q0 q1 q2 _).mono ?_
    rintro e w2 ⟨rfl, b1⟩
    rw [HC.out]
    replace H4 := (b1.out.block _ (blk_lt H4)).trans H4
    have b2 := b0.trans b1
    clear b1 b0 g0 g1 g2
    have s0 := (blk_cell H4 0).trans (show _ = some (Value.int .i64 0) from rfl)
    have s1 := (blk_cell H4 1).trans (show _ = some (Value.int .i64 0) from rfl)
    have s2 := (blk_cell H4 2).trans (show _ = some (Value.int .i64 0) from rfl)
    have f0 := blk_frozen H4 0
    have f1 := blk_frozen H4 1
    have f2 := blk_frozen H4 2
    have HF := hid (blk_set (blk_set (blk_set H4 0 (.int .i64 0)) 1 (.int .i64 0)) 2 (.int .i64 0))
    have HB := hid (b2.then_wi ((((Wi.refl w2 (w.heap.size + 1) (w.heap.size + 1 + 1)).trans (Wi.set _ _ 0 (.int .i64 0))).trans (Wi.set _ _ 1 (.int .i64 0))).trans (Wi.set _ _ 2 (.int .i64 0))) (by omega))
    clear H4 b2
    go_wp2
    refine bodyPost_ret (v := .tuple #[.agg #[.int .i64 0, .int .i64 0, .int .i64 0], .bool false]) ?_ rfl ⟨rfl, HB.out⟩
    exact results_ct (p := 2) (u := 3) rfl _ _ (w.heap.size + 1) 58 #[.int .i64 0, .int .i64 0, .int .i64 0] (0, 0) _ rfl HF.out Try.underlying58 rfl (by kernel_rfl)
  | true =>
    have HC := hid hc
    obtain ⟨h1, h2, h3, h4⟩ := ceOk_facts hc
    simp only at h1 h2 h3 h4
    by_cases hz : q1 = 0
    · have t1 : (q1 == 0) = true := by rw [hz]; rfl
      have HP := hid (show hasPar ⟨q0, q1, q2⟩ = false by rw [hasPar, hc]; simp [hz])
      have HQ := hid (show parC ⟨q0, q1, q2⟩ = ⟨0, 0, 0⟩ by rw [parC, HP.out]; rfl)
      clear hc hz h1 h2 h3 h4
      rw [HQ.out, HP.out]
      go_enter Try.func92, Try.ntmps92
      go_wp2_with fail
      generalize ((w.alloc (.cells #[.int .i64 q0, .int .i64 q1, .int .i64 q2] 58)).alloc (.cells #[.int .i64 0, .int .i64 0, .int .i64 0] 58)) = w1 at *
      refine (impl_IdOk q0 q1 q2 _).mono ?_
      rintro e w2 ⟨rfl, b1⟩
      rw [HC.out]
      replace g1 := pw_cell_below b1.out g1
      replace H4 := (b1.out.block _ (blk_lt H4)).trans H4
      have b2 := b0.trans b1
      clear b1 b0 g0 g2
      have s0 := (blk_cell H4 0).trans (show _ = some (Value.int .i64 0) from rfl)
      have s1 := (blk_cell H4 1).trans (show _ = some (Value.int .i64 0) from rfl)
      have s2 := (blk_cell H4 2).trans (show _ = some (Value.int .i64 0) from rfl)
      have f0 := blk_frozen H4 0
      have f1 := blk_frozen H4 1
      have f2 := blk_frozen H4 2
      have HF := hid (blk_set (blk_set (blk_set H4 0 (.int .i64 0)) 1 (.int .i64 0)) 2 (.int .i64 0))
      have HB := hid (b2.then_wi ((((Wi.refl w2 (w.heap.size + 1) (w.heap.size + 1 + 1)).trans (Wi.set _ _ 0 (.int .i64 0))).trans (Wi.set _ _ 1 (.int .i64 0))).trans (Wi.set _ _ 2 (.int .i64 0))) (by omega))
      clear H4 b2
      go_wp2
      refine bodyPost_ret (v := .tuple #[.agg #[.int .i64 0, .int .i64 0, .int .i64 0], .bool false]) ?_ rfl ⟨rfl, HB.out⟩
      exact results_ct (p := 2) (u := 3) rfl _ _ (w.heap.size + 1) 58 #[.int .i64 0, .int .i64 0, .int .i64 0] (0, 0) _ rfl HF.out Try.underlying58 rfl (by kernel_rfl)
    · have t1 : (q1 == 0) = false := by simp [hz]
      have HP := hid (show hasPar ⟨q0, q1, q2⟩ = true by rw [hasPar, hc]; simp [hz])
      have HQ := hid (show parC ⟨q0, q1, q2⟩ = ⟨q0, q1 - 1, Int.tdiv q2 2⟩ by rw [parC, HP.out]; rfl)
      have hd := tdiv_wide (a := q2) (b := 2) (by omega) (by omega)
      have e1 : IntKind.i64.wrap (q1 - 1) = q1 - 1 := i64w (by omega) (by omega)
      have e2 : IntKind.i64.wrap (Int.tdiv q2 2) = Int.tdiv q2 2 := by clear e1; exact i64w (by omega) (by omega)
      clear hc hz h1 h2 h3 h4 hd
      rw [HQ.out, HP.out]
      go_enter Try.func92, Try.ntmps92
      go_wp2_with fail
      generalize ((w.alloc (.cells #[.int .i64 q0, .int .i64 q1, .int .i64 q2] 58)).alloc (.cells #[.int .i64 0, .int .i64 0, .int .i64 0] 58)) = w1 at *
      refine (impl_IdOk q0 q1 q2 _).mono ?_
      rintro e w2 ⟨rfl, b1⟩
      rw [HC.out]
      replace g0 := pw_cell_below b1.out g0
      replace g1 := pw_cell_below b1.out g1
      replace g2 := pw_cell_below b1.out g2
      replace H4 := (b1.out.block _ (blk_lt H4)).trans H4
      have b2 := b0.trans b1
      clear b1 b0
      have s0 := (blk_cell H4 0).trans (show _ = some (Value.int .i64 0) from rfl)
      have s1 := (blk_cell H4 1).trans (show _ = some (Value.int .i64 0) from rfl)
      have s2 := (blk_cell H4 2).trans (show _ = some (Value.int .i64 0) from rfl)
      have f0 := blk_frozen H4 0
      have f1 := blk_frozen H4 1
      have f2 := blk_frozen H4 2
      have HF := hid (blk_set (blk_set (blk_set H4 0 (.int .i64 q0)) 1 (.int .i64 (q1 - 1))) 2 (.int .i64 (Int.tdiv q2 2)))
      have HB := hid (b2.then_wi ((((Wi.refl w2 (w.heap.size + 1) (w.heap.size + 1 + 1)).trans (Wi.set _ _ 0 (.int .i64 q0))).trans (Wi.set _ _ 1 (.int .i64 (q1 - 1)))).trans (Wi.set _ _ 2 (.int .i64 (Int.tdiv q2 2)))) (by omega))
      clear H4 b2
      go_wp2
      refine bodyPost_ret (v := .tuple #[.agg #[.int .i64 q0, .int .i64 (q1 - 1), .int .i64 (Int.tdiv q2 2)], .bool true]) ?_ rfl ⟨rfl, HB.out⟩
      exact results_ct (p := 2) (u := 3) rfl _ _ (w.heap.size + 1) 58 #[.int .i64 q0, .int .i64 (q1 - 1), .int .i64 (Int.tdiv q2 2)] (0, 0) _ rfl HF.out Try.underlying58 rfl (by kernel_rfl)

def ceB (x0 x1 x2 y0 y1 y2 : Int) : Bool := x0 == y0 && (x1 == y1 && (x2 == y2))
theorem ceB_iff {x y : Ce} : ceB x.r x.l x.i y.r y.l y.i = true ↔ x = y := by
  obtain ⟨a, b, c⟩ := x
  obtain ⟨d, e, f⟩ := y
  simp [ceB]
theorem eqA_idB (d : Nat) (w : World) (x0 y0 x1 y1 x2 y2 : Int) :
    (Op.equalIn (d + 2) 58 (.agg #[.int .i64 x0, .int .i64 x1, .int .i64 x2]) (.agg #[.int .i64 y0, .int .i64 y1, .int .i64 y2])).run Try.prog w = .ok (ceB x0 x1 x2 y0 y1 y2) w := eqA_id d w x0 y0 x1 y1 x2 y2
def sibB (a b : Ce) : Bool := hasPar a && (hasPar b && (ceB (parC a).r (parC a).l (parC a).i (parC b).r (parC b).l (parC b).i && ((Int.tmod a.i 2 == 0) && (b.i == a.i + 1))))
set_option maxHeartbeats 4000000 in
set_option maxRecDepth 100000 in
theorem impl_IsSibling (a b : Ce) (w : World) :
    Calls Try.prog 91 #[.agg #[.int .i64 a.r, .int .i64 a.l, .int .i64 a.i], .agg #[.int .i64 b.r, .int .i64 b.l, .int .i64 b.i]] w fun e w' => e = .returned (.bool (sibB a b)) ∧ Bw w w' := by
  obtain ⟨a0, a1, a2⟩ := a
  obtain ⟨b0, b1, b2⟩ := b
  have bx := (Bw.box1 w (.cells #[.int .i64 a0, .int .i64 a1, .int .i64 a2] 58)).alloc (.cells #[.int .i64 b0, .int .i64 b1, .int .i64 b2] 58)
  have g0 := box_cell ((Bw.refl (w.alloc (.cells #[.int .i64 a0, .int .i64 a1, .int .i64 a2] 58))).alloc (.cells #[.int .i64 b0, .int .i64 b1, .int .i64 b2] 58)) 0
  have g1 := box_cell ((Bw.refl (w.alloc (.cells #[.int .i64 a0, .int .i64 a1, .int .i64 a2] 58))).alloc (.cells #[.int .i64 b0, .int .i64 b1, .int .i64 b2] 58)) 1
  have g2 := box_cell ((Bw.refl (w.alloc (.cells #[.int .i64 a0, .int .i64 a1, .int .i64 a2] 58))).alloc (.cells #[.int .i64 b0, .int .i64 b1, .int .i64 b2] 58)) 2
  have h0 := box_cell (Bw.refl ((w.alloc (.cells #[.int .i64 a0, .int .i64 a1, .int .i64 a2] 58)).alloc (.cells #[.int .i64 b0, .int .i64 b1, .int .i64 b2] 58))) 0
  have h1 := box_cell (Bw.refl ((w.alloc (.cells #[.int .i64 a0, .int .i64 a1, .int .i64 a2] 58)).alloc (.cells #[.int .i64 b0, .int .i64 b1, .int .i64 b2] 58))) 1
  have h2 := box_cell (Bw.refl ((w.alloc (.cells #[.int .i64 a0, .int .i64 a1, .int .i64 a2] 58)).alloc (.cells #[.int .i64 b0, .int .i64 b1, .int .i64 b2] 58))) 2
  simp only [List.getElem?_toArray, List.getElem?_cons_zero, List.getElem?_cons_succ] at g0 g1 g2 h0 h1 h2
  rw [show (w.alloc (.cells #[.int .i64 a0, .int .i64 a1, .int .i64 a2] 58)).heap.size = w.heap.size + 1 by simp] at h0 h1 h2
  have HB := hid bx
  clear bx
  go_enter Try.func91, Try.ntmps91
  go_wp2_with fail
  generalize ((w.alloc (.cells #[.int .i64 a0, .int .i64 a1, .int .i64 a2] 58)).alloc (.cells #[.int .i64 b0, .int .i64 b1, .int .i64 b2] 58)) = w1 at *
  refine (impl_ParentOf ⟨a0, a1, a2⟩ _).mono ?_
  rintro e w2 ⟨rfl, c1⟩
  obtain ⟨p0, p1, p2, hp⟩ : ∃ p0 p1 p2, parC ⟨a0, a1, a2⟩ = ⟨p0, p1, p2⟩ := ⟨_, _, _, rfl⟩
  rw [hp]
  have HPA := hid hp
  have bb := c1.trans (Bw.box1 w2 (.cells #[.int .i64 p0, .int .i64 p1, .int .i64 p2] 58))
  have k0 := box_cell (Bw.refl (w2.alloc (.cells #[.int .i64 p0, .int .i64 p1, .int .i64 p2] 58))) 0
  have k1 := box_cell (Bw.refl (w2.alloc (.cells #[.int .i64 p0, .int .i64 p1, .int .i64 p2] 58))) 1
  have k2 := box_cell (Bw.refl (w2.alloc (.cells #[.int .i64 p0, .int .i64 p1, .int .i64 p2] 58))) 2
  simp only [List.getElem?_toArray, List.getElem?_cons_zero, List.getElem?_cons_succ] at k0 k1 k2
  replace g0 := pw_cell_below bb.out g0
  replace g1 := pw_cell_below bb.out g1
  replace g2 := pw_cell_below bb.out g2
  replace h0 := pw_cell_below bb.out h0
  replace h1 := pw_cell_below bb.out h1
  replace h2 := pw_cell_below bb.out h2
  have HB2 := hid (HB.out.trans bb)
  clear hp bb c1 HB
  go_wp2_with fail
  generalize (w2.alloc (.cells #[.int .i64 p0, .int .i64 p1, .int .i64 p2] 58)) = w3 at *
  generalize w2.heap.size = X2 at *
  refine (impl_ParentOf ⟨b0, b1, b2⟩ _).mono ?_
  rintro e w4 ⟨rfl, c1⟩
  obtain ⟨q0, q1, q2, hq⟩ : ∃ q0 q1 q2, parC ⟨b0, b1, b2⟩ = ⟨q0, q1, q2⟩ := ⟨_, _, _, rfl⟩
  rw [hq]
  have HPB := hid hq
  have bb := c1.trans (Bw.box1 w4 (.cells #[.int .i64 q0, .int .i64 q1, .int .i64 q2] 58))
  have n0 := box_cell (Bw.refl (w4.alloc (.cells #[.int .i64 q0, .int .i64 q1, .int .i64 q2] 58))) 0
  have n1 := box_cell (Bw.refl (w4.alloc (.cells #[.int .i64 q0, .int .i64 q1, .int .i64 q2] 58))) 1
  have n2 := box_cell (Bw.refl (w4.alloc (.cells #[.int .i64 q0, .int .i64 q1, .int .i64 q2] 58))) 2
  simp only [List.getElem?_toArray, List.getElem?_cons_zero, List.getElem?_cons_succ] at n0 n1 n2
  replace g0 := pw_cell_below bb.out g0
  replace g1 := pw_cell_below bb.out g1
  replace g2 := pw_cell_below bb.out g2
  replace h0 := pw_cell_below bb.out h0
  replace h1 := pw_cell_below bb.out h1
  replace h2 := pw_cell_below bb.out h2
  replace k0 := pw_cell_below bb.out k0
  replace k1 := pw_cell_below bb.out k1
  replace k2 := pw_cell_below bb.out k2
  have HB4 := hid (HB2.out.trans bb)
  clear hq bb c1 HB2
  have HS := hid (show sibB ⟨a0, a1, a2⟩ ⟨b0, b1, b2⟩ = (hasPar ⟨a0, a1, a2⟩ && (hasPar ⟨b0, b1, b2⟩ && (ceB p0 p1 p2 q0 q1 q2 && ((Int.tmod a2 2 == 0) && (b2 == a2 + 1))))) by rw [sibB, HPA.out, HPB.out])
  cases hA : hasPar ⟨a0, a1, a2⟩ with
  | false =>
    have HR := hid (show sibB ⟨a0, a1, a2⟩ ⟨b0, b1, b2⟩ = false by rw [HS.out, hA]; rfl)
    clear hA
    go_wp2
    go_ret
    exact ⟨ret_bool HR.out.symm, HB4.out⟩
  | true =>
    have hck : ceOk ⟨a0, a1, a2⟩ = true := by
      have := hA
      simp only [hasPar, Bool.and_eq_true] at this
      exact this.1
    have hf := ceOk_facts hck
    simp only at hf
    have e1 : IntKind.i64.wrap (a2 + 1) = a2 + 1 := i64w (by omega) (by omega)
    rw [hA] at HS
    clear hck hf hA
    cases hB : hasPar ⟨b0, b1, b2⟩ with
    | false =>
      have HR := hid (show sibB ⟨a0, a1, a2⟩ ⟨b0, b1, b2⟩ = false by rw [HS.out, hB]; rfl)
      clear hB
      go_wp2
      go_ret
      exact ⟨ret_bool HR.out.symm, HB4.out⟩
    | true =>
      rw [hB] at HS
      clear hB
      by_cases h0 : p0 = q0
      · subst h0
        by_cases h1 : p1 = q1
        · subst h1
          by_cases h2 : p2 = q2
          · subst h2
            cases hM : (Int.tmod a2 2 == 0) with
            | false =>
              have HR := hid (show sibB ⟨a0, a1, a2⟩ ⟨b0, b1, b2⟩ = false by rw [HS.out, hM]; simp)
              go_wp2
              go_ret
              exact ⟨ret_bool HR.out.symm, HB4.out⟩
            | true =>
              have HR := hid (show sibB ⟨a0, a1, a2⟩ ⟨b0, b1, b2⟩ = (b2 == a2 + 1) by rw [HS.out, hM]; simp [ceB])
              go_wp2
              go_ret
              exact ⟨ret_bool HR.out.symm, HB4.out⟩
          · have tt : (p2 == q2) = false := beq_eq_false_iff_ne.2 h2
            have HR := hid (show sibB ⟨a0, a1, a2⟩ ⟨b0, b1, b2⟩ = false by rw [HS.out, ceB, tt]; simp)
            go_wp2
            go_ret
            exact ⟨ret_bool HR.out.symm, HB4.out⟩
        · have tt : (p1 == q1) = false := beq_eq_false_iff_ne.2 h1
          have HR := hid (show sibB ⟨a0, a1, a2⟩ ⟨b0, b1, b2⟩ = false by rw [HS.out, ceB, tt]; simp)
          go_wp2
          go_ret
          exact ⟨ret_bool HR.out.symm, HB4.out⟩
      · have tt : (p0 == q0) = false := beq_eq_false_iff_ne.2 h0
        have HR := hid (show sibB ⟨a0, a1, a2⟩ ⟨b0, b1, b2⟩ = false by rw [HS.out, ceB, tt]; simp)
        go_wp2
        go_ret
        exact ⟨ret_bool HR.out.symm, HB4.out⟩
end Go.Proofs.Ytaidbdogolhnjaa.U
