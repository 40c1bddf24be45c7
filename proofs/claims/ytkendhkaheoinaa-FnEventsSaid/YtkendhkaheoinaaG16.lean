
/- The reference's copy of a state. -/
import Derived.Test.YtkendhkaheoinaaG9
import Derived.Test.YtkendhkaheoinaaG22
import Derived.Test.YtkendhkaheoinaaWInvWords
import Derived.Test.YtkendhkaheoinaaG14
import Derived.Test.YtkendhkaheoinaaG15
set_option linter.unusedVariables false
set_option linter.unusedSimpArgs false
namespace Go.Proofs.Ytkendhkaheoinaa.U
open Go.RowKit Go.Lib Go.Proofs.YtkendhkaheoinaaW.PrintWords

open Go.Proofs.YtkendhkaheoinaaW.PrintLast Go.Proofs.YtkendhkaheoinaaW.PrintMore
def l07Copy1T : Bool × List (List Nat × List Nat) := (true, [([], []), ([0], [0]), ([1], [1]), ([], []), ([], []), ([4], [4]), ([3, 5, 2], [3, 5]), ([], []), ([], []), ([8], [8]), ([7, 9, 6], [7, 9]), ([], []), ([], []), ([12], [12]), ([11, 13, 10], [11, 13]), ([2, 6, 10, 14], [2, 6, 10, 14]), ([15, 14, 0, 1, 2, 3, 4, 5, 6, 7, 8, 9, 10, 11, 12, 13, 14, 15], [15])])
def l07Copy1B : List Nat := [0, 1, 3, 0, 0, 16, 63, 0, 0, 256, 1023, 0, 0, 4096, 16383, 32767, 65535]
theorem l07Copy1tab : rtab .any (opsOf Try.f32 1) = l07Copy1T := by kernel_rfl
theorem l07Copy1bits : waitsOk l07Copy1T.2 l07Copy1B = true := by kernel_rfl
section
variable {P : Program} {ops : Array Oper} {o : Oper} {a : Act} {Q : Exit → Act → World → Prop} {Kc : Act → World → Prop}
theorem litF_step {W : World} (hw : Region.wanted o (yielded ops a.tmps) = true) {N : Tmp} (_hd : o.dst = some N) {e k : Nat}
    (hrun : (execOp a.eval o).run P W = .ok (.value (.slice (some ⟨W.heap.size, 0, none⟩) 0 0)) (W.alloc (.cells #[] e)))
    (h : ∀ X y w1, FO w1 W.heap.size e k (.slice X 0 y) 0 [] → Bw W w1 → Kc (a.put o.dst (.slice X 0 y)) w1) : if Region.wanted o (yielded ops a.tmps) = true then Oper.wp P o a W Kc Q else Kc (a.put o.dst undef) W :=
  event_step hw hrun (h _ _ _ ⟨World.ownsRow_lit (base := W.heap.size) (e := e) (size := k) W #[] 0 (Nat.le_refl _) (by simp [maxLen]) (by simp)⟩ ((Bw.refl W).alloc _))
end
set_option maxHeartbeats 8000000 in
set_option maxRecDepth 100000 in
theorem spec_l07Copy (x : Value) (s : Sta) (w : World) (hx : StR w x s) (h0 : s.lv.length ≤ 1000000) (h1 : s.ms.length ≤ 1000000000) (h2 : s.ts.length ≤ 1000000000) (h3 : s.bd.length ≤ 1000000000) :
    Calls Try.prog 32 #[x] w fun e w' => ∃ v, e = .returned v ∧ StO w' w.heap.size w'.heap.size v s ∧ Bw w w' := by
  obtain ⟨A0, c0, A1, c1, A2, c2, A3, c3, rfl, r0, r1, r2, r3⟩ := hx
  have b0 := (Bw.box1 w (.cells #[.int .i64 s.ro, .slice A0 s.lv.length c0, .slice A1 s.ms.length c1, .slice A2 s.ts.length c2, .slice A3 s.bd.length c3] 29)).alloc (.cells #[.int .i64 0, .slice none 0 0, .slice none 0 0, .slice none 0 0, .slice none 0 0] 29)
  have g0 := box_cell ((Bw.refl (w.alloc (.cells #[.int .i64 s.ro, .slice A0 s.lv.length c0, .slice A1 s.ms.length c1, .slice A2 s.ts.length c2, .slice A3 s.bd.length c3] 29))).alloc (.cells #[.int .i64 0, .slice none 0 0, .slice none 0 0, .slice none 0 0, .slice none 0 0] 29)) 0
  have g1 := box_cell ((Bw.refl (w.alloc (.cells #[.int .i64 s.ro, .slice A0 s.lv.length c0, .slice A1 s.ms.length c1, .slice A2 s.ts.length c2, .slice A3 s.bd.length c3] 29))).alloc (.cells #[.int .i64 0, .slice none 0 0, .slice none 0 0, .slice none 0 0, .slice none 0 0] 29)) 1
  have g2 := box_cell ((Bw.refl (w.alloc (.cells #[.int .i64 s.ro, .slice A0 s.lv.length c0, .slice A1 s.ms.length c1, .slice A2 s.ts.length c2, .slice A3 s.bd.length c3] 29))).alloc (.cells #[.int .i64 0, .slice none 0 0, .slice none 0 0, .slice none 0 0, .slice none 0 0] 29)) 2
  have g3 := box_cell ((Bw.refl (w.alloc (.cells #[.int .i64 s.ro, .slice A0 s.lv.length c0, .slice A1 s.ms.length c1, .slice A2 s.ts.length c2, .slice A3 s.bd.length c3] 29))).alloc (.cells #[.int .i64 0, .slice none 0 0, .slice none 0 0, .slice none 0 0, .slice none 0 0] 29)) 3
  have g4 := box_cell ((Bw.refl (w.alloc (.cells #[.int .i64 s.ro, .slice A0 s.lv.length c0, .slice A1 s.ms.length c1, .slice A2 s.ts.length c2, .slice A3 s.bd.length c3] 29))).alloc (.cells #[.int .i64 0, .slice none 0 0, .slice none 0 0, .slice none 0 0, .slice none 0 0] 29)) 4
  simp only [List.getElem?_toArray, List.getElem?_cons_zero, List.getElem?_cons_succ] at g0 g1 g2 g3 g4
  have hR := heap_alloc_new (w.alloc (.cells #[.int .i64 s.ro, .slice A0 s.lv.length c0, .slice A1 s.ms.length c1, .slice A2 s.ts.length c2, .slice A3 s.bd.length c3] 29)) (.cells #[.int .i64 0, .slice none 0 0, .slice none 0 0, .slice none 0 0, .slice none 0 0] 29 (0, 0))
  rw [show (w.alloc (.cells #[.int .i64 s.ro, .slice A0 s.lv.length c0, .slice A1 s.ms.length c1, .slice A2 s.ts.length c2, .slice A3 s.bd.length c3] 29)).heap.size = w.heap.size + 1 by simp] at hR
  go_enter Try.func32, Try.ntmps32
  go_upto_region 1 with fail
  generalize ((w.alloc (.cells #[.int .i64 s.ro, .slice A0 s.lv.length c0, .slice A1 s.ms.length c1, .slice A2 s.ts.length c2, .slice A3 s.bd.length c3] 29)).alloc (.cells #[.int .i64 0, .slice none 0 0, .slice none 0 0, .slice none 0 0, .slice none 0 0] 29)) = W1 at *
  have BW := Aside0.mk (Bw.refl W1)
  have HT_ := Aside0.mk l07Copy1tab
  have HW_ := Aside0.mk l07Copy1bits
  refine start_ (n := 17) (S := fun w' => True) (ds := []) #[false, false, false, false, false, false, false, false, false, false, false, false, false, false, false, false, false] (by kernel_rfl) rfl rfl trivial (fun hHeld => ?_)
  refine pure_ (i := 0) (N := some 3) (v := ?_) (a' := ?_) #[true, false, false, false, false, false, false, false, false, false, false, false, false, false, false, false, false] rfl rfl (by kernel_rfl) (fun _ _ _ h => h) (Or.inl ⟨by rfl, ?_⟩) ?_ ?_
  rotate_left
  · intro w'
    go_simp
    with_reducible rfl
  rotate_left
  · simp only [Act.put, List.setIfInBounds_toArray, List.set_cons_zero, List.set_cons_succ, i64_w, i32_w]
    rfl
  refine pure_ (i := 4) (N := some 7) (v := ?_) (a' := ?_) #[true, false, false, false, true, false, false, false, false, false, false, false, false, false, false, false, false] rfl rfl (by kernel_rfl) (fun _ _ _ h => h) (Or.inl ⟨by rfl, ?_⟩) ?_ ?_
  rotate_left
  · intro w'
    go_simp
    with_reducible rfl
  rotate_left
  · simp only [Act.put, List.setIfInBounds_toArray, List.set_cons_zero, List.set_cons_succ, i64_w, i32_w]
    rfl
  refine pure_ (i := 8) (N := some 11) (v := ?_) (a' := ?_) #[true, false, false, false, true, false, false, false, true, false, false, false, false, false, false, false, false] rfl rfl (by kernel_rfl) (fun _ _ _ h => h) (Or.inl ⟨by rfl, ?_⟩) ?_ ?_
  rotate_left
  · intro w'
    go_simp
    with_reducible rfl
  rotate_left
  · simp only [Act.put, List.setIfInBounds_toArray, List.set_cons_zero, List.set_cons_succ, i64_w, i32_w]
    rfl
  refine pure_ (i := 12) (N := some 15) (v := ?_) (a' := ?_) #[true, false, false, false, true, false, false, false, true, false, false, false, true, false, false, false, false] rfl rfl (by kernel_rfl) (fun _ _ _ h => h) (Or.inl ⟨by rfl, ?_⟩) ?_ ?_
  rotate_left
  · intro w'
    go_simp
    with_reducible rfl
  rotate_left
  · simp only [Act.put, List.setIfInBounds_toArray, List.set_cons_zero, List.set_cons_succ, i64_w, i32_w]
    rfl
  refine inv_at [1, 2, 3, 5, 6, 7, 9, 10, 11, 13, 14, 15, 16] (fun a0_ b a w' => ∃ (κ : Nat → Nat) (zl : Value) (z3 : Value) (z6 : Value) (z7 : Value) (z10 : Value) (z11 : Value) (z14 : Value) (m2_ : Value) (m15_ : Value), a = putSel a0_ b [(1, 4, .agg #[.int .i64 s.ro, .slice A0 s.lv.length c0]), (2, 5, m2_), (3, 6, z3), (5, 8, .slice A1 s.ms.length c1), (6, 9, z6), (7, 10, z7), (9, 12, .slice A2 s.ts.length c2), (10, 13, z10), (11, 14, z11), (13, 16, .slice A3 s.bd.length c3), (14, 17, z14), (15, 18, m15_)] ∧ (b 16 = false → Bw W1 w') ∧ (b 2 = true → Cn w' W1.heap.size κ 0 72 3 zl s.lv.length (idF s.lv)) ∧ (b 3 = true → b 6 = false → Cn w' W1.heap.size κ 1 3 1 z3 0 []) ∧ (b 6 = true → Cn w' W1.heap.size κ 1 3 1 z6 s.ms.length s.ms) ∧ (b 7 = true → b 10 = false → Cn w' W1.heap.size κ 2 3 1 z7 0 []) ∧ (b 10 = true → Cn w' W1.heap.size κ 2 3 1 z10 s.ts.length s.ts) ∧ (b 11 = true → b 14 = false → Cn w' W1.heap.size κ 3 3 1 z11 0 []) ∧ (b 14 = true → Cn w' W1.heap.size κ 3 3 1 z14 s.bd.length s.bd) ∧ (b 16 = true → w'.heap[w.heap.size + 1]? = some (.cells #[.int .i64 s.ro, zl, z6, z10, z14] 29 (0, 0))) ∧ (b 16 = true → Bw w w') ∧ (b 2 = true → (m2_ : Value) = .agg #[.int .i64 s.ro, zl]) ∧ (b 15 = true → (m15_ : Value) = .agg #[.int .i64 s.ro, zl, z6, z10, z14])) HT_.out HW_.out (by kernel_rfl) (by kernel_rfl) ?_ ?_ ?_
  · exact ⟨fun _ => 0, .slice none 0 0, .slice none 0 0, .slice none 0 0, .slice none 0 0, .slice none 0 0, .slice none 0 0, .slice none 0 0, .bool false, .bool false, by simp only [putSel, Bool.false_eq_true, if_false], fun _ => BW.out.trans (Bw.drawn ⟨⟨1, rfl⟩⟩), fun h_ => absurd h_ (by decide), fun h_ => absurd h_ (by decide), fun h_ => absurd h_ (by decide), fun h_ => absurd h_ (by decide), fun h_ => absurd h_ (by decide), fun h_ => absurd h_ (by decide), fun h_ => absurd h_ (by decide), fun h_ => absurd h_ (by decide), fun h_ => absurd h_ (by decide), fun h_ => absurd h_ (by decide), fun h_ => absurd h_ (by decide)⟩
  · skip
    clear BW
    refine steps_cons ?_ ?_
    · rintro b a w' ⟨κ, zl, z3, z6, z7, z10, z11, z14, m2_, m15_, ha, Q_BW, Q_R2, Q_L3, Q_R6, Q_L7, Q_R10, Q_L11, Q_R14, Q_HF, Q_BF, Q_X2_, Q_X15_⟩ hb_ hon hoff
      refine ⟨_, rfl, fun K hK => ?_⟩
      have e3 : a.tmps[3]? = some (.pointer (some ⟨w.heap.size, 0, none⟩)) := by rw [ha]; exact (putSel_off rfl).trans rfl
      replace ha := Aside0.mk ha
      have BW := Aside0.mk (Q_BW (hoff 16 (by kernel_rfl)))
      have hc_ := pw_cell_below BW.out.out g0
      have hc2_ := pw_cell_below BW.out.out g1
      refine value_ (w1 := w') (v := .agg #[.int .i64 s.ro, .slice A0 s.lv.length c0]) (by rfl) rfl ?_ ?_
      · go_simp
        (try simp only [i64_w])
        try rfl
      refine hK.out _ _ ⟨κ, zl, z3, z6, z7, z10, z11, z14, m2_, m15_, (by rw [ha.out]; exact putSel_upk 0 hb_ rfl rfl rfl), Q_BW, fun h0_ => absurd ((hoff 2 (by kernel_rfl)).symm.trans h0_) (by decide), Q_L3, fun h0_ => absurd ((hoff 6 (by kernel_rfl)).symm.trans h0_) (by decide), Q_L7, fun h0_ => absurd ((hoff 10 (by kernel_rfl)).symm.trans h0_) (by decide), Q_L11, fun h0_ => absurd ((hoff 14 (by kernel_rfl)).symm.trans h0_) (by decide), fun h0_ => absurd ((hoff 16 (by kernel_rfl)).symm.trans h0_) (by decide), fun h0_ => absurd ((hoff 16 (by kernel_rfl)).symm.trans h0_) (by decide), fun h0_ => absurd ((hoff 2 (by kernel_rfl)).symm.trans h0_) (by decide), fun h0_ => absurd ((hoff 15 (by kernel_rfl)).symm.trans h0_) (by decide)⟩
    refine steps_cons ?_ ?_
    · rintro b a w' ⟨κ, zl, z3, z6, z7, z10, z11, z14, m2_, m15_, ha, Q_BW, Q_R2, Q_L3, Q_R6, Q_L7, Q_R10, Q_L11, Q_R14, Q_HF, Q_BF, Q_X2_, Q_X15_⟩ hb_ hon hoff
      refine ⟨_, rfl, fun K hK => ?_⟩
      have e4 : a.tmps[4]? = some (.agg #[.int .i64 s.ro, .slice A0 s.lv.length c0]) := by rw [ha]; exact putSel_on (e := (1, 4, .agg #[.int .i64 s.ro, .slice A0 s.lv.length c0])) 0 rfl rfl (hon 1 (by kernel_rfl)) rfl
      replace ha := Aside0.mk ha
      have BW := Aside0.mk (Q_BW (hoff 16 (by kernel_rfl)))
      have hsz : W1.heap.size ≤ w'.heap.size := BW.out.size
      refine goes_ Try.func66 (by kernel_rfl) rfl #[.agg #[.int .i64 s.ro, .slice A0 s.lv.length c0]] (by rfl) rfl rfl (by first | (simp only [List.map_toArray, List.map_cons, List.map_nil, Act.eval, Array.getD_eq_getD_getElem?, Option.getD_some, e4]; done) | (simp only [List.map_toArray, List.map_cons, List.map_nil, Act.eval, Array.getD_eq_getD_getElem?, Option.getD_some, e4]; rfl)) ?_
      refine (spec_l04Copy s.ro A0 s.lv.length c0 s.lv _ ((r0.to b0).to BW.out) h0).mono ?_
      rintro e wL ⟨XL, yL, rfl, oL, bL⟩
      refine ⟨_, rfl, ?_⟩
      refine hK.out _ _ ⟨(paint κ w'.heap.size 0), (.slice XL s.lv.length yL), z3, z6, z7, z10, z11, z14, (.agg #[.int .i64 s.ro, (.slice XL s.lv.length yL)]), m15_, (by rw [ha.out]; exact putSel_upk 1 hb_ rfl rfl rfl), fun _ => BW.out.trans bL, fun _ => oL.cn hsz, fun h0_ h1_ => (Q_L3 h0_ h1_).to bL 0, fun h0_ => absurd ((hoff 6 (by kernel_rfl)).symm.trans h0_) (by decide), fun h0_ h1_ => (Q_L7 h0_ h1_).to bL 0, fun h0_ => absurd ((hoff 10 (by kernel_rfl)).symm.trans h0_) (by decide), fun h0_ h1_ => (Q_L11 h0_ h1_).to bL 0, fun h0_ => absurd ((hoff 14 (by kernel_rfl)).symm.trans h0_) (by decide), fun h0_ => absurd ((hoff 16 (by kernel_rfl)).symm.trans h0_) (by decide), fun h0_ => absurd ((hoff 16 (by kernel_rfl)).symm.trans h0_) (by decide), fun _ => rfl, fun h0_ => absurd ((hoff 15 (by kernel_rfl)).symm.trans h0_) (by decide)⟩
    refine steps_cons ?_ ?_
    · rintro b a w' ⟨κ, zl, z3, z6, z7, z10, z11, z14, m2_, m15_, ha, Q_BW, Q_R2, Q_L3, Q_R6, Q_L7, Q_R10, Q_L11, Q_R14, Q_HF, Q_BF, Q_X2_, Q_X15_⟩ hb_ hon hoff
      refine ⟨_, rfl, fun K hK => ?_⟩
      replace ha := Aside0.mk ha
      have BW := Aside0.mk (Q_BW (hoff 16 (by kernel_rfl)))
      have hsz : W1.heap.size ≤ w'.heap.size := BW.out.size
      refine litF_step (N := 6) (e := 3) (k := 1) ?hg ?hd ?hr ?_; (case hd => rfl); (case hg => rfl); (case hr => first | (go_simp; done) | (go_simp; rfl))
      intro XL yL wL oL bL
      refine hK.out _ _ ⟨(paint κ w'.heap.size 1), zl, (.slice XL 0 yL), z6, z7, z10, z11, z14, m2_, m15_, (by rw [ha.out]; exact putSel_upk 2 hb_ rfl rfl rfl), fun _ => BW.out.trans bL, fun h0_ => (Q_R2 h0_).to bL 1, fun _ _ => oL.cn hsz, fun h0_ => absurd ((hoff 6 (by kernel_rfl)).symm.trans h0_) (by decide), fun h0_ h1_ => (Q_L7 h0_ h1_).to bL 1, fun h0_ => absurd ((hoff 10 (by kernel_rfl)).symm.trans h0_) (by decide), fun h0_ h1_ => (Q_L11 h0_ h1_).to bL 1, fun h0_ => absurd ((hoff 14 (by kernel_rfl)).symm.trans h0_) (by decide), fun h0_ => absurd ((hoff 16 (by kernel_rfl)).symm.trans h0_) (by decide), fun h0_ => absurd ((hoff 16 (by kernel_rfl)).symm.trans h0_) (by decide), Q_X2_, fun h0_ => absurd ((hoff 15 (by kernel_rfl)).symm.trans h0_) (by decide)⟩
    refine steps_cons ?_ ?_
    · rintro b a w' ⟨κ, zl, z3, z6, z7, z10, z11, z14, m2_, m15_, ha, Q_BW, Q_R2, Q_L3, Q_R6, Q_L7, Q_R10, Q_L11, Q_R14, Q_HF, Q_BF, Q_X2_, Q_X15_⟩ hb_ hon hoff
      refine ⟨_, rfl, fun K hK => ?_⟩
      have e7 : a.tmps[7]? = some (.pointer (some ⟨w.heap.size, 2, none⟩)) := by rw [ha]; exact (putSel_off rfl).trans rfl
      replace ha := Aside0.mk ha
      have BW := Aside0.mk (Q_BW (hoff 16 (by kernel_rfl)))
      have hc_ := pw_cell_below BW.out.out g2
      refine value_ (w1 := w') (v := .slice A1 s.ms.length c1) (by rfl) rfl ?_ ?_
      · go_simp
        (try simp only [i64_w])
        try rfl
      refine hK.out _ _ ⟨κ, zl, z3, z6, z7, z10, z11, z14, m2_, m15_, (by rw [ha.out]; exact putSel_upk 3 hb_ rfl rfl rfl), Q_BW, Q_R2, Q_L3, fun h0_ => absurd ((hoff 6 (by kernel_rfl)).symm.trans h0_) (by decide), Q_L7, fun h0_ => absurd ((hoff 10 (by kernel_rfl)).symm.trans h0_) (by decide), Q_L11, fun h0_ => absurd ((hoff 14 (by kernel_rfl)).symm.trans h0_) (by decide), fun h0_ => absurd ((hoff 16 (by kernel_rfl)).symm.trans h0_) (by decide), fun h0_ => absurd ((hoff 16 (by kernel_rfl)).symm.trans h0_) (by decide), Q_X2_, fun h0_ => absurd ((hoff 15 (by kernel_rfl)).symm.trans h0_) (by decide)⟩
    refine steps_cons ?_ ?_
    · rintro b a w' ⟨κ, zl, z3, z6, z7, z10, z11, z14, m2_, m15_, ha, Q_BW, Q_R2, Q_L3, Q_R6, Q_L7, Q_R10, Q_L11, Q_R14, Q_HF, Q_BF, Q_X2_, Q_X15_⟩ hb_ hon hoff
      refine ⟨_, rfl, fun K hK => ?_⟩
      have e6 : a.tmps[6]? = some (z3) := by rw [ha]; exact putSel_on (e := (3, 6, z3)) 2 rfl rfl (hon 3 (by kernel_rfl)) rfl
      have e8 : a.tmps[8]? = some (.slice A1 s.ms.length c1) := by rw [ha]; exact putSel_on (e := (5, 8, .slice A1 s.ms.length c1)) 3 rfl rfl (hon 5 (by kernel_rfl)) rfl
      replace ha := Aside0.mk ha
      have BW := Aside0.mk (Q_BW (hoff 16 (by kernel_rfl)))
      have R2 := Aside0.mk (Q_R2 (hon 2 (by kernel_rfl)))
      have L3 := Aside0.mk (Q_L3 (hon 3 (by kernel_rfl)) hb_)
      have hsz : W1.heap.size ≤ w'.heap.size := BW.out.size
      have hle := Nat.le_refl W1.heap.size
      refine appendInts_step (w0 := W1) W1.heap.size (by rfl) (.tmp 6) (.tmp 8) rfl z3 [] s.ms A1 s.ms.length c1 (by simp only [Act.eval, Array.getD_eq_getD_getElem?, Option.getD_some, e6]) (by simp only [Act.eval, Array.getD_eq_getD_getElem?, Option.getD_some, e8]) ⟨L3.out.o.out⟩ ((r1.to b0).to BW.out) BW.out.out hsz (by simp; omega) ?_
      intro v1 w8 ho8 hB8 hg8 ha8
      have ho9 : FO w8 W1.heap.size 3 1 v1 s.ms.length s.ms := by simpa using (show FO w8 W1.heap.size 3 1 v1 _ _ from ⟨ho8.out⟩)
      refine hK.out _ _ ⟨(paint κ w'.heap.size 1), zl, z3, v1, z7, z10, z11, z14, m2_, m15_, (by rw [ha.out]; exact putSel_upk 4 hb_ rfl rfl rfl), fun _ => L3.out.bw hg8 BW.out hle, fun _ => R2.out.grown L3.out (by decide) hg8 1, fun _ h1_ => absurd ((up_self b 6).symm.trans h1_) (by decide), fun _ => L3.out.app ho9 ha8, fun h0_ h1_ => (Q_L7 h0_ h1_).grown L3.out (by decide) hg8 1, fun h0_ => absurd ((hoff 10 (by kernel_rfl)).symm.trans h0_) (by decide), fun h0_ h1_ => (Q_L11 h0_ h1_).grown L3.out (by decide) hg8 1, fun h0_ => absurd ((hoff 14 (by kernel_rfl)).symm.trans h0_) (by decide), fun h0_ => absurd ((hoff 16 (by kernel_rfl)).symm.trans h0_) (by decide), fun h0_ => absurd ((hoff 16 (by kernel_rfl)).symm.trans h0_) (by decide), Q_X2_, fun h0_ => absurd ((hoff 15 (by kernel_rfl)).symm.trans h0_) (by decide)⟩
    refine steps_cons ?_ ?_
    · rintro b a w' ⟨κ, zl, z3, z6, z7, z10, z11, z14, m2_, m15_, ha, Q_BW, Q_R2, Q_L3, Q_R6, Q_L7, Q_R10, Q_L11, Q_R14, Q_HF, Q_BF, Q_X2_, Q_X15_⟩ hb_ hon hoff
      refine ⟨_, rfl, fun K hK => ?_⟩
      replace ha := Aside0.mk ha
      have BW := Aside0.mk (Q_BW (hoff 16 (by kernel_rfl)))
      have hsz : W1.heap.size ≤ w'.heap.size := BW.out.size
      refine litF_step (N := 10) (e := 3) (k := 1) ?hg ?hd ?hr ?_; (case hd => rfl); (case hg => rfl); (case hr => first | (go_simp; done) | (go_simp; rfl))
      intro XL yL wL oL bL
      refine hK.out _ _ ⟨(paint κ w'.heap.size 2), zl, z3, z6, (.slice XL 0 yL), z10, z11, z14, m2_, m15_, (by rw [ha.out]; exact putSel_upk 5 hb_ rfl rfl rfl), fun _ => BW.out.trans bL, fun h0_ => (Q_R2 h0_).to bL 2, fun h0_ h1_ => (Q_L3 h0_ h1_).to bL 2, fun h0_ => (Q_R6 h0_).to bL 2, fun _ _ => oL.cn hsz, fun h0_ => absurd ((hoff 10 (by kernel_rfl)).symm.trans h0_) (by decide), fun h0_ h1_ => (Q_L11 h0_ h1_).to bL 2, fun h0_ => absurd ((hoff 14 (by kernel_rfl)).symm.trans h0_) (by decide), fun h0_ => absurd ((hoff 16 (by kernel_rfl)).symm.trans h0_) (by decide), fun h0_ => absurd ((hoff 16 (by kernel_rfl)).symm.trans h0_) (by decide), Q_X2_, fun h0_ => absurd ((hoff 15 (by kernel_rfl)).symm.trans h0_) (by decide)⟩
    refine steps_cons ?_ ?_
    · rintro b a w' ⟨κ, zl, z3, z6, z7, z10, z11, z14, m2_, m15_, ha, Q_BW, Q_R2, Q_L3, Q_R6, Q_L7, Q_R10, Q_L11, Q_R14, Q_HF, Q_BF, Q_X2_, Q_X15_⟩ hb_ hon hoff
      refine ⟨_, rfl, fun K hK => ?_⟩
      have e11 : a.tmps[11]? = some (.pointer (some ⟨w.heap.size, 3, none⟩)) := by rw [ha]; exact (putSel_off rfl).trans rfl
      replace ha := Aside0.mk ha
      have BW := Aside0.mk (Q_BW (hoff 16 (by kernel_rfl)))
      have hc_ := pw_cell_below BW.out.out g3
      refine value_ (w1 := w') (v := .slice A2 s.ts.length c2) (by rfl) rfl ?_ ?_
      · go_simp
        (try simp only [i64_w])
        try rfl
      refine hK.out _ _ ⟨κ, zl, z3, z6, z7, z10, z11, z14, m2_, m15_, (by rw [ha.out]; exact putSel_upk 6 hb_ rfl rfl rfl), Q_BW, Q_R2, Q_L3, Q_R6, Q_L7, fun h0_ => absurd ((hoff 10 (by kernel_rfl)).symm.trans h0_) (by decide), Q_L11, fun h0_ => absurd ((hoff 14 (by kernel_rfl)).symm.trans h0_) (by decide), fun h0_ => absurd ((hoff 16 (by kernel_rfl)).symm.trans h0_) (by decide), fun h0_ => absurd ((hoff 16 (by kernel_rfl)).symm.trans h0_) (by decide), Q_X2_, fun h0_ => absurd ((hoff 15 (by kernel_rfl)).symm.trans h0_) (by decide)⟩
    refine steps_cons ?_ ?_
    · rintro b a w' ⟨κ, zl, z3, z6, z7, z10, z11, z14, m2_, m15_, ha, Q_BW, Q_R2, Q_L3, Q_R6, Q_L7, Q_R10, Q_L11, Q_R14, Q_HF, Q_BF, Q_X2_, Q_X15_⟩ hb_ hon hoff
      refine ⟨_, rfl, fun K hK => ?_⟩
      have e10 : a.tmps[10]? = some (z7) := by rw [ha]; exact putSel_on (e := (7, 10, z7)) 5 rfl rfl (hon 7 (by kernel_rfl)) rfl
      have e12 : a.tmps[12]? = some (.slice A2 s.ts.length c2) := by rw [ha]; exact putSel_on (e := (9, 12, .slice A2 s.ts.length c2)) 6 rfl rfl (hon 9 (by kernel_rfl)) rfl
      replace ha := Aside0.mk ha
      have BW := Aside0.mk (Q_BW (hoff 16 (by kernel_rfl)))
      have R2 := Aside0.mk (Q_R2 (hon 2 (by kernel_rfl)))
      have R6 := Aside0.mk (Q_R6 (hon 6 (by kernel_rfl)))
      have L7 := Aside0.mk (Q_L7 (hon 7 (by kernel_rfl)) hb_)
      have hsz : W1.heap.size ≤ w'.heap.size := BW.out.size
      have hle := Nat.le_refl W1.heap.size
      refine appendInts_step (w0 := W1) W1.heap.size (by rfl) (.tmp 10) (.tmp 12) rfl z7 [] s.ts A2 s.ts.length c2 (by simp only [Act.eval, Array.getD_eq_getD_getElem?, Option.getD_some, e10]) (by simp only [Act.eval, Array.getD_eq_getD_getElem?, Option.getD_some, e12]) ⟨L7.out.o.out⟩ ((r2.to b0).to BW.out) BW.out.out hsz (by simp; omega) ?_
      intro v1 w8 ho8 hB8 hg8 ha8
      have ho9 : FO w8 W1.heap.size 3 1 v1 s.ts.length s.ts := by simpa using (show FO w8 W1.heap.size 3 1 v1 _ _ from ⟨ho8.out⟩)
      refine hK.out _ _ ⟨(paint κ w'.heap.size 2), zl, z3, z6, z7, v1, z11, z14, m2_, m15_, (by rw [ha.out]; exact putSel_upk 7 hb_ rfl rfl rfl), fun _ => L7.out.bw hg8 BW.out hle, fun _ => R2.out.grown L7.out (by decide) hg8 2, fun _ h1_ => absurd ((hon 6 (by kernel_rfl)).symm.trans h1_) (by decide), fun _ => R6.out.grown L7.out (by decide) hg8 2, fun _ h1_ => absurd ((up_self b 10).symm.trans h1_) (by decide), fun _ => L7.out.app ho9 ha8, fun h0_ h1_ => (Q_L11 h0_ h1_).grown L7.out (by decide) hg8 2, fun h0_ => absurd ((hoff 14 (by kernel_rfl)).symm.trans h0_) (by decide), fun h0_ => absurd ((hoff 16 (by kernel_rfl)).symm.trans h0_) (by decide), fun h0_ => absurd ((hoff 16 (by kernel_rfl)).symm.trans h0_) (by decide), Q_X2_, fun h0_ => absurd ((hoff 15 (by kernel_rfl)).symm.trans h0_) (by decide)⟩
    refine steps_cons ?_ ?_
    · rintro b a w' ⟨κ, zl, z3, z6, z7, z10, z11, z14, m2_, m15_, ha, Q_BW, Q_R2, Q_L3, Q_R6, Q_L7, Q_R10, Q_L11, Q_R14, Q_HF, Q_BF, Q_X2_, Q_X15_⟩ hb_ hon hoff
      refine ⟨_, rfl, fun K hK => ?_⟩
      replace ha := Aside0.mk ha
      have BW := Aside0.mk (Q_BW (hoff 16 (by kernel_rfl)))
      have hsz : W1.heap.size ≤ w'.heap.size := BW.out.size
      refine litF_step (N := 14) (e := 3) (k := 1) ?hg ?hd ?hr ?_; (case hd => rfl); (case hg => rfl); (case hr => first | (go_simp; done) | (go_simp; rfl))
      intro XL yL wL oL bL
      refine hK.out _ _ ⟨(paint κ w'.heap.size 3), zl, z3, z6, z7, z10, (.slice XL 0 yL), z14, m2_, m15_, (by rw [ha.out]; exact putSel_upk 8 hb_ rfl rfl rfl), fun _ => BW.out.trans bL, fun h0_ => (Q_R2 h0_).to bL 3, fun h0_ h1_ => (Q_L3 h0_ h1_).to bL 3, fun h0_ => (Q_R6 h0_).to bL 3, fun h0_ h1_ => (Q_L7 h0_ h1_).to bL 3, fun h0_ => (Q_R10 h0_).to bL 3, fun _ _ => oL.cn hsz, fun h0_ => absurd ((hoff 14 (by kernel_rfl)).symm.trans h0_) (by decide), fun h0_ => absurd ((hoff 16 (by kernel_rfl)).symm.trans h0_) (by decide), fun h0_ => absurd ((hoff 16 (by kernel_rfl)).symm.trans h0_) (by decide), Q_X2_, fun h0_ => absurd ((hoff 15 (by kernel_rfl)).symm.trans h0_) (by decide)⟩
    refine steps_cons ?_ ?_
    · rintro b a w' ⟨κ, zl, z3, z6, z7, z10, z11, z14, m2_, m15_, ha, Q_BW, Q_R2, Q_L3, Q_R6, Q_L7, Q_R10, Q_L11, Q_R14, Q_HF, Q_BF, Q_X2_, Q_X15_⟩ hb_ hon hoff
      refine ⟨_, rfl, fun K hK => ?_⟩
      have e15 : a.tmps[15]? = some (.pointer (some ⟨w.heap.size, 4, none⟩)) := by rw [ha]; exact (putSel_off rfl).trans rfl
      replace ha := Aside0.mk ha
      have BW := Aside0.mk (Q_BW (hoff 16 (by kernel_rfl)))
      have hc_ := pw_cell_below BW.out.out g4
      refine value_ (w1 := w') (v := .slice A3 s.bd.length c3) (by rfl) rfl ?_ ?_
      · go_simp
        (try simp only [i64_w])
        try rfl
      refine hK.out _ _ ⟨κ, zl, z3, z6, z7, z10, z11, z14, m2_, m15_, (by rw [ha.out]; exact putSel_upk 9 hb_ rfl rfl rfl), Q_BW, Q_R2, Q_L3, Q_R6, Q_L7, Q_R10, Q_L11, fun h0_ => absurd ((hoff 14 (by kernel_rfl)).symm.trans h0_) (by decide), fun h0_ => absurd ((hoff 16 (by kernel_rfl)).symm.trans h0_) (by decide), fun h0_ => absurd ((hoff 16 (by kernel_rfl)).symm.trans h0_) (by decide), Q_X2_, fun h0_ => absurd ((hoff 15 (by kernel_rfl)).symm.trans h0_) (by decide)⟩
    refine steps_cons ?_ ?_
    · rintro b a w' ⟨κ, zl, z3, z6, z7, z10, z11, z14, m2_, m15_, ha, Q_BW, Q_R2, Q_L3, Q_R6, Q_L7, Q_R10, Q_L11, Q_R14, Q_HF, Q_BF, Q_X2_, Q_X15_⟩ hb_ hon hoff
      refine ⟨_, rfl, fun K hK => ?_⟩
      have e14 : a.tmps[14]? = some (z11) := by rw [ha]; exact putSel_on (e := (11, 14, z11)) 8 rfl rfl (hon 11 (by kernel_rfl)) rfl
      have e16 : a.tmps[16]? = some (.slice A3 s.bd.length c3) := by rw [ha]; exact putSel_on (e := (13, 16, .slice A3 s.bd.length c3)) 9 rfl rfl (hon 13 (by kernel_rfl)) rfl
      replace ha := Aside0.mk ha
      have BW := Aside0.mk (Q_BW (hoff 16 (by kernel_rfl)))
      have R2 := Aside0.mk (Q_R2 (hon 2 (by kernel_rfl)))
      have R6 := Aside0.mk (Q_R6 (hon 6 (by kernel_rfl)))
      have R10 := Aside0.mk (Q_R10 (hon 10 (by kernel_rfl)))
      have L11 := Aside0.mk (Q_L11 (hon 11 (by kernel_rfl)) hb_)
      have hsz : W1.heap.size ≤ w'.heap.size := BW.out.size
      have hle := Nat.le_refl W1.heap.size
      refine appendInts_step (w0 := W1) W1.heap.size (by rfl) (.tmp 14) (.tmp 16) rfl z11 [] s.bd A3 s.bd.length c3 (by simp only [Act.eval, Array.getD_eq_getD_getElem?, Option.getD_some, e14]) (by simp only [Act.eval, Array.getD_eq_getD_getElem?, Option.getD_some, e16]) ⟨L11.out.o.out⟩ ((r3.to b0).to BW.out) BW.out.out hsz (by simp; omega) ?_
      intro v1 w8 ho8 hB8 hg8 ha8
      have ho9 : FO w8 W1.heap.size 3 1 v1 s.bd.length s.bd := by simpa using (show FO w8 W1.heap.size 3 1 v1 _ _ from ⟨ho8.out⟩)
      refine hK.out _ _ ⟨(paint κ w'.heap.size 3), zl, z3, z6, z7, z10, z11, v1, m2_, m15_, (by rw [ha.out]; exact putSel_upk 10 hb_ rfl rfl rfl), fun _ => L11.out.bw hg8 BW.out hle, fun _ => R2.out.grown L11.out (by decide) hg8 3, fun _ h1_ => absurd ((hon 6 (by kernel_rfl)).symm.trans h1_) (by decide), fun _ => R6.out.grown L11.out (by decide) hg8 3, fun _ h1_ => absurd ((hon 10 (by kernel_rfl)).symm.trans h1_) (by decide), fun _ => R10.out.grown L11.out (by decide) hg8 3, fun _ h1_ => absurd ((up_self b 14).symm.trans h1_) (by decide), fun _ => L11.out.app ho9 ha8, fun h0_ => absurd ((hoff 16 (by kernel_rfl)).symm.trans h0_) (by decide), fun h0_ => absurd ((hoff 16 (by kernel_rfl)).symm.trans h0_) (by decide), Q_X2_, fun h0_ => absurd ((hoff 15 (by kernel_rfl)).symm.trans h0_) (by decide)⟩
    refine steps_cons ?_ ?_
    · rintro b a w' ⟨κ, zl, z3, z6, z7, z10, z11, z14, m2_, m15_, ha, Q_BW, Q_R2, Q_L3, Q_R6, Q_L7, Q_R10, Q_L11, Q_R14, Q_HF, Q_BF, Q_X2_, Q_X15_⟩ hb_ hon hoff
      refine ⟨_, rfl, fun K hK => ?_⟩
      have e5 : a.tmps[5]? = some (m2_) := by rw [ha]; exact putSel_on (e := (2, 5, m2_)) 1 rfl rfl (hon 2 (by kernel_rfl)) rfl
      rw [Q_X2_ (hon 2 (by kernel_rfl))] at e5
      have e9 : a.tmps[9]? = some (z6) := by rw [ha]; exact putSel_on (e := (6, 9, z6)) 4 rfl rfl (hon 6 (by kernel_rfl)) rfl
      have e13 : a.tmps[13]? = some (z10) := by rw [ha]; exact putSel_on (e := (10, 13, z10)) 7 rfl rfl (hon 10 (by kernel_rfl)) rfl
      have e17 : a.tmps[17]? = some (z14) := by rw [ha]; exact putSel_on (e := (14, 17, z14)) 10 rfl rfl (hon 14 (by kernel_rfl)) rfl
      replace ha := Aside0.mk ha
      have BW := Aside0.mk (Q_BW (hoff 16 (by kernel_rfl)))
      have R2 := Aside0.mk (Q_R2 (hon 2 (by kernel_rfl)))
      have R6 := Aside0.mk (Q_R6 (hon 6 (by kernel_rfl)))
      have R10 := Aside0.mk (Q_R10 (hon 10 (by kernel_rfl)))
      have R14 := Aside0.mk (Q_R14 (hon 14 (by kernel_rfl)))
      obtain ⟨Xzl_, yzl_, e_, _, _⟩ := R2.out.o.reads
      subst e_
      obtain ⟨Xz6_, yz6_, e_, _, _⟩ := R6.out.o.reads
      subst e_
      obtain ⟨Xz10_, yz10_, e_, _, _⟩ := R10.out.o.reads
      subst e_
      obtain ⟨Xz14_, yz14_, e_, _, _⟩ := R14.out.o.reads
      subst e_
      refine value_ (w1 := w') (v := .agg #[.int .i64 s.ro, (.slice Xzl_ s.lv.length yzl_), (.slice Xz6_ s.ms.length yz6_), (.slice Xz10_ s.ts.length yz10_), (.slice Xz14_ s.bd.length yz14_)]) (by rfl) rfl ?_ ?_
      · go_simp
        (try simp only [i64_w])
        try rfl
      refine hK.out _ _ ⟨κ, (.slice Xzl_ s.lv.length yzl_), z3, (.slice Xz6_ s.ms.length yz6_), z7, (.slice Xz10_ s.ts.length yz10_), z11, (.slice Xz14_ s.bd.length yz14_), m2_, (.agg #[.int .i64 s.ro, (.slice Xzl_ s.lv.length yzl_), (.slice Xz6_ s.ms.length yz6_), (.slice Xz10_ s.ts.length yz10_), (.slice Xz14_ s.bd.length yz14_)]), (by rw [ha.out]; exact putSel_upk 11 hb_ rfl rfl rfl), Q_BW, Q_R2, fun _ h1_ => absurd ((hon 6 (by kernel_rfl)).symm.trans h1_) (by decide), Q_R6, fun _ h1_ => absurd ((hon 10 (by kernel_rfl)).symm.trans h1_) (by decide), Q_R10, fun _ h1_ => absurd ((hon 14 (by kernel_rfl)).symm.trans h1_) (by decide), Q_R14, fun h0_ => absurd ((hoff 16 (by kernel_rfl)).symm.trans h0_) (by decide), fun h0_ => absurd ((hoff 16 (by kernel_rfl)).symm.trans h0_) (by decide), Q_X2_, fun _ => rfl⟩
    refine steps_cons ?_ ?_
    · rintro b a w' ⟨κ, zl, z3, z6, z7, z10, z11, z14, m2_, m15_, ha, Q_BW, Q_R2, Q_L3, Q_R6, Q_L7, Q_R10, Q_L11, Q_R14, Q_HF, Q_BF, Q_X2_, Q_X15_⟩ hb_ hon hoff
      refine ⟨_, rfl, fun K hK => ?_⟩
      have e2 : a.tmps[2]? = some (.pointer (some ⟨w.heap.size + 1, 0, none⟩)) := by rw [ha]; exact (putSel_off rfl).trans rfl
      have e18 : a.tmps[18]? = some (m15_) := by rw [ha]; exact putSel_on (e := (15, 18, m15_)) 11 rfl rfl (hon 15 (by kernel_rfl)) rfl
      rw [Q_X15_ (hon 15 (by kernel_rfl))] at e18
      replace ha := Aside0.mk ha
      have BW := Aside0.mk (Q_BW hb_)
      have R2 := Aside0.mk (Q_R2 (hon 2 (by kernel_rfl)))
      have R6 := Aside0.mk (Q_R6 (hon 6 (by kernel_rfl)))
      have R10 := Aside0.mk (Q_R10 (hon 10 (by kernel_rfl)))
      have R14 := Aside0.mk (Q_R14 (hon 14 (by kernel_rfl)))
      obtain ⟨Xzl_, yzl_, e_, _, _⟩ := R2.out.o.reads
      subst e_
      obtain ⟨Xz6_, yz6_, e_, _, _⟩ := R6.out.o.reads
      subst e_
      obtain ⟨Xz10_, yz10_, e_, _, _⟩ := R10.out.o.reads
      subst e_
      obtain ⟨Xz14_, yz14_, e_, _, _⟩ := R14.out.o.reads
      subst e_
      have hRk := (BW.out.out.block _ (blk_lt hR)).trans hR
      have hs0_ := (blk_cell hRk 0).trans (show _ = some (Value.int .i64 0) from rfl)
      have hf0_ := blk_frozen hRk 0
      have hs1_ := (blk_cell hRk 1).trans (show _ = some (Value.slice none 0 0) from rfl)
      have hf1_ := blk_frozen hRk 1
      have hs2_ := (blk_cell hRk 2).trans (show _ = some (Value.slice none 0 0) from rfl)
      have hf2_ := blk_frozen hRk 2
      have hs3_ := (blk_cell hRk 3).trans (show _ = some (Value.slice none 0 0) from rfl)
      have hf3_ := blk_frozen hRk 3
      have hs4_ := (blk_cell hRk 4).trans (show _ = some (Value.slice none 0 0) from rfl)
      have hf4_ := blk_frozen hRk 4
      have hwi : Wi w' (((((w'.setCell ⟨w.heap.size + 1, 0, none⟩ (.int .i64 s.ro)).setCell ⟨w.heap.size + 1, 1, none⟩ ((.slice Xzl_ s.lv.length yzl_))).setCell ⟨w.heap.size + 1, 2, none⟩ ((.slice Xz6_ s.ms.length yz6_))).setCell ⟨w.heap.size + 1, 3, none⟩ ((.slice Xz10_ s.ts.length yz10_))).setCell ⟨w.heap.size + 1, 4, none⟩ ((.slice Xz14_ s.bd.length yz14_))) (w.heap.size + 1) (w.heap.size + 1 + 1) := (((((Wi.refl w' (w.heap.size + 1) (w.heap.size + 1 + 1)).trans (Wi.put _ _ 0 (.int .i64 s.ro))).trans (Wi.put _ _ 1 ((.slice Xzl_ s.lv.length yzl_)))).trans (Wi.put _ _ 2 ((.slice Xz6_ s.ms.length yz6_)))).trans (Wi.put _ _ 3 ((.slice Xz10_ s.ts.length yz10_)))).trans (Wi.put _ _ 4 ((.slice Xz14_ s.bd.length yz14_)))
      have hFF : (((((w'.setCell ⟨w.heap.size + 1, 0, none⟩ (.int .i64 s.ro)).setCell ⟨w.heap.size + 1, 1, none⟩ ((.slice Xzl_ s.lv.length yzl_))).setCell ⟨w.heap.size + 1, 2, none⟩ ((.slice Xz6_ s.ms.length yz6_))).setCell ⟨w.heap.size + 1, 3, none⟩ ((.slice Xz10_ s.ts.length yz10_))).setCell ⟨w.heap.size + 1, 4, none⟩ ((.slice Xz14_ s.bd.length yz14_))).heap[w.heap.size + 1]? = some (.cells #[.int .i64 s.ro, (.slice Xzl_ s.lv.length yzl_), (.slice Xz6_ s.ms.length yz6_), (.slice Xz10_ s.ts.length yz10_), (.slice Xz14_ s.bd.length yz14_)] 29 (0, 0)) := (blk_set (blk_set (blk_set (blk_set (blk_set hRk 0 (.int .i64 s.ro)) 1 ((.slice Xzl_ s.lv.length yzl_))) 2 ((.slice Xz6_ s.ms.length yz6_))) 3 ((.slice Xz10_ s.ts.length yz10_))) 4 ((.slice Xz14_ s.bd.length yz14_)))
      have hwi2 := Aside0.mk hwi
      have hFF2 := Aside0.mk hFF
      clear hwi hFF
      refine skip_ (w1 := ?_) (by rfl) rfl ?_ ?_
      rotate_left
      · go_simp
        rfl
      have hwi := hwi2.out
      refine hK.out _ _ ⟨κ, (.slice Xzl_ s.lv.length yzl_), z3, (.slice Xz6_ s.ms.length yz6_), z7, (.slice Xz10_ s.ts.length yz10_), z11, (.slice Xz14_ s.bd.length yz14_), m2_, m15_, (by rw [ha.out]; exact putSel_none (v := undef) rfl), fun h0_ => absurd ((up_self b 16).symm.trans h0_) (by decide), fun _ => R2.out.put hRk (by decide) hwi, fun _ h1_ => absurd ((hon 6 (by kernel_rfl)).symm.trans h1_) (by decide), fun _ => R6.out.put hRk (by decide) hwi, fun _ h1_ => absurd ((hon 10 (by kernel_rfl)).symm.trans h1_) (by decide), fun _ => R10.out.put hRk (by decide) hwi, fun _ h1_ => absurd ((hon 14 (by kernel_rfl)).symm.trans h1_) (by decide), fun _ => R14.out.put hRk (by decide) hwi, fun _ => hFF2.out, fun _ => (b0.trans BW.out).then_wi hwi (by omega), Q_X2_, Q_X15_⟩
    exact steps_nil
  rintro b a w' hall ⟨κ, zl, z3, z6, z7, z10, z11, z14, m2_, m15_, ha, Q_BW, Q_R2, Q_L3, Q_R6, Q_L7, Q_R10, Q_L11, Q_R14, Q_HF, Q_BF, Q_X2_, Q_X15_⟩
  clear BW
  have hb1_ := hall 1 (by kernel_rfl)
  have hb2_ := hall 2 (by kernel_rfl)
  have hb3_ := hall 3 (by kernel_rfl)
  have hb5_ := hall 5 (by kernel_rfl)
  have hb6_ := hall 6 (by kernel_rfl)
  have hb7_ := hall 7 (by kernel_rfl)
  have hb9_ := hall 9 (by kernel_rfl)
  have hb10_ := hall 10 (by kernel_rfl)
  have hb11_ := hall 11 (by kernel_rfl)
  have hb13_ := hall 13 (by kernel_rfl)
  have hb14_ := hall 14 (by kernel_rfl)
  have hb15_ := hall 15 (by kernel_rfl)
  have hb16_ := hall 16 (by kernel_rfl)
  subst ha
  obtain rfl := Q_X2_ hb2_
  obtain rfl := Q_X15_ hb15_
  simp only [putSel, hb1_, hb2_, hb3_, hb5_, hb6_, hb7_, hb9_, hb10_, hb11_, hb13_, hb14_, hb15_, hb16_, if_true, Act.put, List.setIfInBounds_toArray, List.set_cons_zero, List.set_cons_succ]
  clear Q_BW
  have R2 := Aside0.mk (Q_R2 hb2_)
  clear Q_R2
  clear Q_L3
  have R6 := Aside0.mk (Q_R6 hb6_)
  clear Q_R6
  clear Q_L7
  have R10 := Aside0.mk (Q_R10 hb10_)
  clear Q_R10
  clear Q_L11
  have R14 := Aside0.mk (Q_R14 hb14_)
  clear Q_R14
  have HF := Aside0.mk (Q_HF hb16_)
  clear Q_HF
  have BF := Aside0.mk (Q_BF hb16_)
  clear Q_BF
  clear hall hb1_ hb2_ hb3_ hb5_ hb6_ hb7_ hb9_ hb10_ hb11_ hb13_ hb14_ hb15_ hb16_
  obtain ⟨X0, y0, rfl, _, _⟩ := R2.out.o.reads
  obtain ⟨X1, y1, rfl, _, _⟩ := R6.out.o.reads
  obtain ⟨X2, y2, rfl, _, _⟩ := R10.out.o.reads
  obtain ⟨X3, y3, rfl, _, _⟩ := R14.out.o.reads
  have hb0 := b0.size
  have HST := hid (show StO w' w.heap.size w'.heap.size (.agg #[.int .i64 s.ro, .slice X0 s.lv.length y0, .slice X1 s.ms.length y1, .slice X2 s.ts.length y2, .slice X3 s.bd.length y3]) s from ⟨_, _, _, _, rfl, (FO.less R2.out.o hb0).rw, (FO.less R6.out.o hb0).rw, (FO.less R10.out.o hb0).rw, (FO.less R14.out.o hb0).rw, R2.out.apart R6.out (by decide), R2.out.apart R10.out (by decide), R2.out.apart R14.out (by decide), R6.out.apart R10.out (by decide), R6.out.apart R14.out (by decide), R10.out.apart R14.out (by decide)⟩)
  go_wp2
  refine bodyPost_ret (results_cell_row rfl _ _ (w.heap.size + 1) 29 #[.int .i64 s.ro, .slice X0 s.lv.length y0, .slice X1 s.ms.length y1, .slice X2 s.ts.length y2, .slice X3 s.bd.length y3] (0, 0) _ rfl HF.out Try.underlying29 rfl (by kernel_rfl)) rfl ?_
  exact ⟨_, rfl, HST.out, BF.out⟩
end Go.Proofs.Ytkendhkaheoinaa.U
set_option linter.unusedVariables false
set_option linter.unusedSimpArgs false
namespace Go.Proofs.Ytkendhkaheoinaa.U
open Go.RowKit Go.Lib Go.Proofs.YtkendhkaheoinaaW.PrintWords

open Go.Proofs.YtkendhkaheoinaaW.PrintLast Go.Proofs.YtkendhkaheoinaaW.PrintMore
attribute [local go_sem] go_max2 go_min2
set_option maxHeartbeats 8000000 in
set_option maxRecDepth 100000 in
theorem spec_l11Step (x : Value) (s : Sta) (t : Int) (w : World) (hx : StR w x s) (hs : StG s) (ht : t ≤ 9223372036854775807) :
    Calls Try.prog 34 #[x, .int .i64 t] w fun e w' => ∃ v, e = .returned v ∧ StO w' w.heap.size w'.heap.size v (stepS s t) ∧ Bw w w' := by
  have hmx := hs.f.n
  have hx0 := hx
  have HL := hid (show s.lv.length ≤ 1000000 ∧ s.ms.length ≤ 1000000000 ∧ s.ts.length ≤ 1000000000 ∧ s.bd.length ≤ 1000000000 from ⟨by omega, by rw [hs.f.ms]; omega, by rw [hs.f.ts]; omega, by have := hs.f.bd; omega⟩)
  obtain ⟨n, hn⟩ : ∃ n, s.lv.length = n := ⟨_, rfl⟩
  obtain ⟨A0, c0, A1, c1, A2, c2, A3, c3, rfl, r0, r1, r2, r3⟩ := hx
  have hms := hs.f.ms
  have hts := hs.f.ts
  rw [hms, hts] at hx0
  rw [hms] at r1
  rw [hts] at r2
  rw [hms, hts]
  rw [hn] at hx0 r0 r1 r2 ⊢
  have h1n : 1 ≤ n := by have := hs.one; omega
  have HN := hid hn
  have HMS := hid (And.intro hms hts)
  rw [hn] at hmx
  clear hn hms hts
  have b0 := (Bw.box1 w (.cells #[.int .i64 s.ro, .slice A0 n c0, .slice A1 n c1, .slice A2 n c2, .slice A3 s.bd.length c3] 29)).alloc (.cells #[.int .i64 0, .slice none 0 0, .slice none 0 0, .slice none 0 0, .slice none 0 0] 29)
  have g0 := box_cell ((Bw.refl (w.alloc (.cells #[.int .i64 s.ro, .slice A0 n c0, .slice A1 n c1, .slice A2 n c2, .slice A3 s.bd.length c3] 29))).alloc (.cells #[.int .i64 0, .slice none 0 0, .slice none 0 0, .slice none 0 0, .slice none 0 0] 29)) 0
  have g1 := box_cell ((Bw.refl (w.alloc (.cells #[.int .i64 s.ro, .slice A0 n c0, .slice A1 n c1, .slice A2 n c2, .slice A3 s.bd.length c3] 29))).alloc (.cells #[.int .i64 0, .slice none 0 0, .slice none 0 0, .slice none 0 0, .slice none 0 0] 29)) 1
  have g2 := box_cell ((Bw.refl (w.alloc (.cells #[.int .i64 s.ro, .slice A0 n c0, .slice A1 n c1, .slice A2 n c2, .slice A3 s.bd.length c3] 29))).alloc (.cells #[.int .i64 0, .slice none 0 0, .slice none 0 0, .slice none 0 0, .slice none 0 0] 29)) 2
  have g3 := box_cell ((Bw.refl (w.alloc (.cells #[.int .i64 s.ro, .slice A0 n c0, .slice A1 n c1, .slice A2 n c2, .slice A3 s.bd.length c3] 29))).alloc (.cells #[.int .i64 0, .slice none 0 0, .slice none 0 0, .slice none 0 0, .slice none 0 0] 29)) 3
  have g4 := box_cell ((Bw.refl (w.alloc (.cells #[.int .i64 s.ro, .slice A0 n c0, .slice A1 n c1, .slice A2 n c2, .slice A3 s.bd.length c3] 29))).alloc (.cells #[.int .i64 0, .slice none 0 0, .slice none 0 0, .slice none 0 0, .slice none 0 0] 29)) 4
  simp only [List.getElem?_toArray, List.getElem?_cons_zero, List.getElem?_cons_succ] at g0 g1 g2 g3 g4
  have hB0 := heap_alloc_new w (.cells #[.int .i64 s.ro, .slice A0 n c0, .slice A1 n c1, .slice A2 n c2, .slice A3 s.bd.length c3] 29 (0, 0))
  have HB0 := hid (((Bw.box1 (w.alloc (.cells #[.int .i64 s.ro, .slice A0 n c0, .slice A1 n c1, .slice A2 n c2, .slice A3 s.bd.length c3] 29)) (.cells #[.int .i64 0, .slice none 0 0, .slice none 0 0, .slice none 0 0, .slice none 0 0] 29)).out.block _ (blk_lt hB0)).trans hB0)
  have hR := heap_alloc_new (w.alloc (.cells #[.int .i64 s.ro, .slice A0 n c0, .slice A1 n c1, .slice A2 n c2, .slice A3 s.bd.length c3] 29)) (.cells #[.int .i64 0, .slice none 0 0, .slice none 0 0, .slice none 0 0, .slice none 0 0] 29 (0, 0))
  rw [show (w.alloc (.cells #[.int .i64 s.ro, .slice A0 n c0, .slice A1 n c1, .slice A2 n c2, .slice A3 s.bd.length c3] 29)).heap.size = w.heap.size + 1 by simp] at hR
  have HR := hid hR
  clear hR hB0
  have HKM := hid (make_n n (by omega))
  have HX0 := hid hx0
  clear hx0
  go_enter Try.func34, Try.ntmps34
  go_upto_region 1 with fail
  generalize ((w.alloc (.cells #[.int .i64 s.ro, .slice A0 n c0, .slice A1 n c1, .slice A2 n c2, .slice A3 s.bd.length c3] 29)).alloc (.cells #[.int .i64 0, .slice none 0 0, .slice none 0 0, .slice none 0 0, .slice none 0 0] 29)) = W1 at *
  go_wp2_with fail
  refine (spec_l07Copy _ s _ (HX0.out.to b0) HL.out.1 HL.out.2.1 HL.out.2.2.1 HL.out.2.2.2).mono ?_
  rintro e w2 ⟨v, rfl, hO, b2⟩
  obtain ⟨vl, vm, vt, vb, rfl, hl, hm, ht_, hb, ap⟩ := hO
  rw [HMS.out.1, HN.out] at hm
  rw [HMS.out.2, HN.out] at ht_
  rw [HN.out] at hl
  obtain ⟨Al, cl, rfl, _, _⟩ := hl.reads
  obtain ⟨Am, cm, rfl, _, _⟩ := hm.reads
  obtain ⟨At, ct, rfl, _, _⟩ := ht_.reads
  obtain ⟨Ab, cb, rfl, _, _⟩ := hb.reads
  obtain ⟨gm, rfl, hgm, hgm2, em⟩ := FO.form hm.o h1n
  obtain ⟨gt, rfl, hgt, hgt2, et⟩ := FO.form ht_.o h1n
  have hne : gm ≠ gt := by
    rcases ap.2.2.2.1 with e | e
    · simp [Value.ownBlock] at e
    · simpa [Value.ownBlock] using e
  have bx := Bw.box1 w2 (.cells #[.int .i64 s.ro, .slice Al n cl, .slice (some ⟨gm, 0, none⟩) n cm, .slice (some ⟨gt, 0, none⟩) n ct, .slice Ab s.bd.length cb] 29)
  have HF := hid (heap_alloc_new w2 (.cells #[.int .i64 s.ro, .slice Al n cl, .slice (some ⟨gm, 0, none⟩) n cm, .slice (some ⟨gt, 0, none⟩) n ct, .slice Ab s.bd.length cb] 29 (0, 0)))
  have HO := hid (And.intro (hl.to bx) (And.intro (hm.to bx) (And.intro (ht_.to bx) (And.intro (hb.to bx) ap))))
  have HB1 := hid (b2.trans bx)
  have hb0 := b0.size
  have hb2 := b2.size
  have hw1 : w.heap.size + 1 < W1.heap.size := blk_lt HR.out
  have HRR := hid ((HB1.out.out.block _ (blk_lt HR.out)).trans HR.out)
  have HBB := hid ((HB1.out.out.block _ (blk_lt HB0.out)).trans HB0.out)
  have HK := hid (b0.trans HB1.out)
  replace g0 := pw_cell_below HB1.out.out g0
  replace g1 := pw_cell_below HB1.out.out g1
  replace g2 := pw_cell_below HB1.out.out g2
  replace g3 := pw_cell_below HB1.out.out g3
  replace g4 := pw_cell_below HB1.out.out g4
  have hP1 : w2.heap.size + 1 ≤ (w2.alloc (.cells #[.int .i64 s.ro, .slice Al n cl, .slice (some ⟨gm, 0, none⟩) n cm, .slice (some ⟨gt, 0, none⟩) n ct, .slice Ab s.bd.length cb] 29)).heap.size := by simp
  have hbm := hm.b gm rfl
  have hbt := ht_.b gt rfl
  clear hl hm ht_ hb bx b2 em et hgm2 hgt2 ap b0
  go_upto_region 2 with fail
  generalize (w2.alloc (.cells #[.int .i64 s.ro, .slice Al n cl, .slice (some ⟨gm, 0, none⟩) n cm, .slice (some ⟨gt, 0, none⟩) n ct, .slice Ab s.bd.length cb] 29)) = W3 at *
  generalize w2.heap.size = P at *
  have hkm := HKM.out
  go_upto_region 3 with fail
  have hA3 := Bw.box1 W3 (.cells (madeCells #[.int .i64 0] n) 3)
  have hF0 := hid (show OI (W3.alloc (.cells (madeCells #[.int .i64 0] n) 3)) W3.heap.size (.slice (some ⟨W3.heap.size, 0, none⟩) n n) n (rowOf n (flF s t 0)) from ⟨by rw [flF_zero, ← rowOf_zero]; exact own_made W3 W3.heap.size 3 .i64 n (Nat.le_refl _) (by omega)⟩)
  have HP4 := hid ((hA3.out.block _ (blk_lt HF.out)).trans HF.out)
  have HR4 := hid ((hA3.out.block _ (blk_lt HRR.out)).trans HRR.out)
  have HB4 := hid ((hA3.out.block _ (blk_lt HBB.out)).trans HBB.out)
  have HK4 := hid (HK.out.trans hA3)
  have HO4 := hid (And.intro (HO.out.1.to hA3) (And.intro (HO.out.2.1.to hA3) (And.intro (HO.out.2.2.1.to hA3) (And.intro (HO.out.2.2.2.1.to hA3) HO.out.2.2.2.2))))
  have hM0 := hid (show OI (W3.alloc (.cells (madeCells #[.int .i64 0] n) 3)) W1.heap.size (.slice (some ⟨gm, 0, none⟩) n cm) n (rowOf n (mM s t 0)) by rw [mM_zero, rowOf_self (by rw [HMS.out.1, HN.out])]; exact HO4.out.2.1.oi)
  have hU0 := hid (Uw.refl (W3.alloc (.cells (madeCells #[.int .i64 0] n) 3)) W3.heap.size gm)
  have hsz4 : W3.heap.size < (W3.alloc (.cells (madeCells #[.int .i64 0] n) 3)).heap.size := by simp
  clear hA3 HF HRR HBB HK HO g0 g1 g2 g3 g4 hkm
  generalize (W3.alloc (.cells (madeCells #[.int .i64 0] n) 3)) = W4 at *
  generalize W3.heap.size = G at *
  go_wp2
  go_loopw [7] (fun v7 wr => ∃ k : Nat, k + 1 ≤ n ∧ v7 = .int .i64 k ∧ Hid (Uw W4 wr G gm) ∧ Hid (OI wr G (.slice (some ⟨G, 0, none⟩) n n) n (rowOf n (flF s t k))) ∧ Hid (OI wr W1.heap.size (.slice (some ⟨gm, 0, none⟩) n cm) n (rowOf n (mM s t k)))) (fun v7 _ => n - (intOf v7).toNat)
  case atStart => exact ⟨0, by omega, rfl, hU0, hF0, hM0⟩
  case round =>
    obtain ⟨k, hk, rfl, hU, hF, hM⟩ := hrel
    have HB := hid (hU.out.to HK4.out (by omega) (by omega))
    have hbB := hU.out.blk HB4.out (by omega) (by omega)
    have hbP := hU.out.blk HP4.out (by omega) (by omega)
    have g0 := (blk_cell hbB 0).trans (show _ = some (Value.int .i64 s.ro) from rfl)
    have g1 := (blk_cell hbB 1).trans (show _ = some (Value.slice A0 n c0) from rfl)
    have g2 := (blk_cell hbB 2).trans (show _ = some (Value.slice A1 n c1) from rfl)
    have g3 := (blk_cell hbB 3).trans (show _ = some (Value.slice A2 n c2) from rfl)
    have g4 := (blk_cell hbB 4).trans (show _ = some (Value.slice A3 s.bd.length c3) from rfl)
    have e1 : IntKind.i64.wrap ((k : Int) + 1) = (k : Int) + 1 := i64w (by omega) (by omega)
    have i0 : (0 : Int) ≤ (k : Int) := by clear e1; omega
    have i1 : (k : Int) < (n : Int) := by clear e1; omega
    by_cases hlt : k + 1 < n
    · have t1 : decide ((k : Int) + 1 < (n : Int)) = true := decide_eq_true (by clear e1; omega)
      have i2 : (0 : Int) ≤ (k : Int) + 1 := by clear e1; omega
      have i3 : (k : Int) + 1 < (n : Int) := by clear e1; omega
      have HKL := hid (show k < s.lv.length ∧ k + 1 < s.lv.length by rw [HN.out]; clear e1; omega)
      have hkk := hid (show k + 1 + 1 ≤ n ∧ n - (k + 1) < n - k by clear e1; omega)
      clear hbB hbP
      go_wp2_with fail
      refine (spec_l05Face s.ro A0 n c0 s.lv k _ (r0.to HB.out) hlt).mono ?_
      rintro e w5 ⟨rfl, b5⟩
      have hU5 := hid (hU.out.bw b5)
      have hF5 := hid (hF.out.to b5)
      have hM5 := hid (hM.out.to b5)
      have HB5 := hid (HB.out.trans b5)
      clear hU hF hM HB b5 g0 g1 g2 g3 g4
      go_wp2_with fail
      refine (spec_IsActive t (faceL s.lv k) _ ht).mono ?_
      rintro e w6 ⟨rfl, rfl⟩
      cases ha : actB t (faceL s.lv k) with
      | false =>
        have hz : fl s t k = 0 := by rw [fl, if_neg (by rw [ha]; simp)]
        have HF2 := hid (show OI w5 G (.slice (some ⟨G, 0, none⟩) n n) n (rowOf n (flF s t (k + 1))) by rw [← flF_skip s t hz]; exact hF5.out)
        have HM2 := hid (show OI w5 W1.heap.size (.slice (some ⟨gm, 0, none⟩) n cm) n (rowOf n (mM s t (k + 1))) by rw [← mM_skip s t k hz]; exact hM5.out)
        clear hz ha
        go_wp2
        go_roundw
        case rel => exact ⟨k + 1, hkk.out.1, by go_num, hU5, HF2, HM2⟩
        case measure => simp [intOf]; clear e1; omega
      | true =>
        have hy : fl s t k = fluxS s k := by rw [fl, if_pos ⟨HKL.out.2, ha⟩]
        obtain ⟨y, hY⟩ : ∃ y, fl s t k = y := ⟨_, rfl⟩
        have hyb := fl_bd hs.f t k HKL.out.1
        rw [hY] at hy hyb
        have HY := hid (And.intro hY hy)
        have hbB := hU5.out.blk HB4.out (by clear e1; omega) (by clear e1; omega)
        have g0 := (blk_cell hbB 0).trans (show _ = some (Value.int .i64 s.ro) from rfl)
        have g1 := (blk_cell hbB 1).trans (show _ = some (Value.slice A0 n c0) from rfl)
        have g2 := (blk_cell hbB 2).trans (show _ = some (Value.slice A1 n c1) from rfl)
        have g3 := (blk_cell hbB 3).trans (show _ = some (Value.slice A2 n c2) from rfl)
        have g4 := (blk_cell hbB 4).trans (show _ = some (Value.slice A3 s.bd.length c3) from rfl)
        clear ha hY hy hbB
        go_wp2_with fail
        refine (spec_l09Flux _ s k _ (HX0.out.to HB5.out) hs.f HKL.out.2).mono ?_
        rintro e w7 ⟨rfl, b7⟩
        rw [← HY.out.2]
        have hU7 := hid (hU5.out.bw b7)
        have hF7 := hid (hF5.out.to b7)
        have hM7 := hid (hM5.out.to b7)
        clear hU5 hF5 hM5 HB5 b7 g0 g1 g2 g3 g4
        obtain ⟨x1, f1⟩ := oi_cell hF7.out k (by clear e1; omega)
        go_upto_region 8 with fail
        have hU8 := hid (hU7.out.set G k (.int .i64 y) (Or.inl rfl))
        have hF8 := hid (show OI (w7.setCell ⟨G, k, none⟩ (.int .i64 y)) G (.slice (some ⟨G, 0, none⟩) n n) n (rowOf n (flF s t (k + 1))) by have h := flF_step (n := n) (k := k) s t; rw [HY.out.1] at h; have := oi_store hF7.out k y; rwa [h] at this)
        have hM8 := hid (oi_off (i := k) (u := .int .i64 y) hM7.out (show gm ≠ G by clear e1; omega))
        clear x1 f1 hU7 hF7 hM7
        generalize (w7.setCell ⟨G, k, none⟩ (.int .i64 y)) = W8 at *
        have hbP := hU8.out.blk HP4.out (by clear e1; omega) (by clear e1; omega)
        have p2 := (blk_cell hbP 2).trans (show _ = some (Value.slice (some ⟨gm, 0, none⟩) n cm) from rfl)
        obtain ⟨xf, _⟩ := oi_cell hF8.out k (by clear e1; omega)
        rw [rd_rowOf _ (by clear e1; omega), show flF s t (k + 1) k = y from (if_pos (by clear e1; omega)).trans HY.out.1] at xf
        obtain ⟨xm, fm⟩ := oi_cell hM8.out k (by clear e1; omega)
        rw [rd_rowOf _ (by clear e1; omega)] at xm
        obtain ⟨m0, hm0⟩ : ∃ m0, mM s t k k = m0 := ⟨_, rfl⟩
        rw [hm0] at xm
        have hmr := mM_range hs.f t k k HKL.out.1
        rw [hm0] at hmr
        obtain ⟨u, hu⟩ : ∃ u, m0 - y = u := ⟨_, rfl⟩
        have HU := hid hu
        have HM0 := hid hm0
        have e3 : IntKind.i64.wrap (m0 - y) = u := by rw [← hu]; exact i64w (by clear e1 hu; omega) (by clear e1 hu; omega)
        clear hbP hu hm0
        refine start_ (n := 15) (S := fun w' => w'.cell? ⟨P, 2, none⟩ = some (.slice (some ⟨gm, 0, none⟩) n cm) ∧ w'.cell? ⟨gm, k, none⟩ = some (.int .i64 m0) ∧ w'.cell? ⟨G, k, none⟩ = some (.int .i64 y)) (ds := [14]) #[false, false, false, false, false, false, false, false, false, false, false, false, false, false, false] (by kernel_rfl) rfl rfl ⟨p2, xm, xf⟩ (fun hHeld => ?_)
        refine pure_ (i := 0) (N := (some 40)) (v := ?_) (a' := ?_) #[true, false, false, false, false, false, false, false, false, false, false, false, false, false, false] rfl rfl (by kernel_rfl) (fun _ _ _ h => h) (Or.inl ⟨by rfl, ?_⟩) ?_ ?_
        rotate_left
        · intro w'
          go_simp
          with_reducible rfl
        rotate_left
        · simp only [Act.put, List.setIfInBounds_toArray, List.set_cons_zero, List.set_cons_succ, i64_w, i32_w]
          rfl
        refine take_ (i := 1) (N := (some 41)) (v := ?_) (a' := ?_) #[true, true, false, false, false, false, false, false, false, false, false, false, false, false, false] rfl rfl (by kernel_rfl) (fun _ _ _ h => h) (Or.inl ⟨by rfl, ?_⟩) hHeld ?_ ?_
        rotate_left
        · rintro w' ⟨s0, s1, s2⟩
          go_simp
          with_reducible rfl
        rotate_left
        · simp only [Act.put, List.setIfInBounds_toArray, List.set_cons_zero, List.set_cons_succ, i64_w, i32_w]
          rfl
        refine pure_ (i := 2) (N := (some 42)) (v := ?_) (a' := ?_) #[true, true, true, false, false, false, false, false, false, false, false, false, false, false, false] rfl rfl (by kernel_rfl) (fun _ _ _ h => h) (Or.inl ⟨by rfl, ?_⟩) ?_ ?_
        rotate_left
        · intro w'
          go_simp
          with_reducible rfl
        rotate_left
        · simp only [Act.put, List.setIfInBounds_toArray, List.set_cons_zero, List.set_cons_succ, i64_w, i32_w]
          rfl
        refine pure_ (i := 3) (N := (some 43)) (v := ?_) (a' := ?_) #[true, true, true, true, false, false, false, false, false, false, false, false, false, false, false] rfl rfl (by kernel_rfl) (fun _ _ _ h => h) (Or.inl ⟨by rfl, ?_⟩) ?_ ?_
        rotate_left
        · intro w'
          go_simp
          with_reducible rfl
        rotate_left
        · simp only [Act.put, List.setIfInBounds_toArray, List.set_cons_zero, List.set_cons_succ, i64_w, i32_w]
          rfl
        refine take_ (i := 4) (N := (some 44)) (v := ?_) (a' := ?_) #[true, true, true, true, true, false, false, false, false, false, false, false, false, false, false] rfl rfl (by kernel_rfl) (fun _ _ _ h => h) (Or.inl ⟨by rfl, ?_⟩) hHeld ?_ ?_
        rotate_left
        · rintro w' ⟨s0, s1, s2⟩
          go_simp
          with_reducible rfl
        rotate_left
        · simp only [Act.put, List.setIfInBounds_toArray, List.set_cons_zero, List.set_cons_succ, i64_w, i32_w]
          rfl
        refine pure_ (i := 5) (N := (some 45)) (v := ?_) (a' := ?_) #[true, true, true, true, true, true, false, false, false, false, false, false, false, false, false] rfl rfl (by kernel_rfl) (fun _ _ _ h => h) (Or.inl ⟨by rfl, ?_⟩) ?_ ?_
        rotate_left
        · intro w'
          go_simp
          with_reducible rfl
        rotate_left
        · simp only [Act.put, List.setIfInBounds_toArray, List.set_cons_zero, List.set_cons_succ, i64_w, i32_w]
          rfl
        refine pure_ (i := 6) (N := (some 46)) (v := ?_) (a' := ?_) #[true, true, true, true, true, true, true, false, false, false, false, false, false, false, false] rfl rfl (by kernel_rfl) (fun _ _ _ h => h) (Or.inl ⟨by rfl, ?_⟩) ?_ ?_
        rotate_left
        · intro w'
          go_simp
          with_reducible rfl
        rotate_left
        · simp only [Act.put, List.setIfInBounds_toArray, List.set_cons_zero, List.set_cons_succ, i64_w, i32_w]
          rfl
        refine take_ (i := 7) (N := (some 47)) (v := ?_) (a' := ?_) #[true, true, true, true, true, true, true, true, false, false, false, false, false, false, false] rfl rfl (by kernel_rfl) (fun _ _ _ h => h) (Or.inl ⟨by rfl, ?_⟩) hHeld ?_ ?_
        rotate_left
        · rintro w' ⟨s0, s1, s2⟩
          go_simp
          with_reducible rfl
        rotate_left
        · simp only [Act.put, List.setIfInBounds_toArray, List.set_cons_zero, List.set_cons_succ, i64_w, i32_w]
          rfl
        refine pure_ (i := 8) (N := (some 48)) (v := ?_) (a' := ?_) #[true, true, true, true, true, true, true, true, true, false, false, false, false, false, false] rfl rfl (by kernel_rfl) (fun _ _ _ h => h) (Or.inl ⟨by rfl, ?_⟩) ?_ ?_
        rotate_left
        · intro w'
          go_simp
          with_reducible rfl
        rotate_left
        · simp only [Act.put, List.setIfInBounds_toArray, List.set_cons_zero, List.set_cons_succ, i64_w, i32_w]
          rfl
        refine pure_ (i := 9) (N := (some 49)) (v := ?_) (a' := ?_) #[true, true, true, true, true, true, true, true, true, true, false, false, false, false, false] rfl rfl (by kernel_rfl) (fun _ _ _ h => h) (Or.inl ⟨by rfl, ?_⟩) ?_ ?_
        rotate_left
        · intro w'
          go_simp
          with_reducible rfl
        rotate_left
        · simp only [Act.put, List.setIfInBounds_toArray, List.set_cons_zero, List.set_cons_succ, i64_w, i32_w]
          rfl
        refine pure_ (i := 10) (N := (some 50)) (v := ?_) (a' := ?_) #[true, true, true, true, true, true, true, true, true, true, true, false, false, false, false] rfl rfl (by kernel_rfl) (fun _ _ _ h => h) (Or.inl ⟨by rfl, ?_⟩) ?_ ?_
        rotate_left
        · intro w'
          go_simp
          with_reducible rfl
        rotate_left
        · simp only [Act.put, List.setIfInBounds_toArray, List.set_cons_zero, List.set_cons_succ, i64_w, i32_w]
          rfl
        refine take_ (i := 11) (N := (some 51)) (v := ?_) (a' := ?_) #[true, true, true, true, true, true, true, true, true, true, true, true, false, false, false] rfl rfl (by kernel_rfl) (fun _ _ _ h => h) (Or.inl ⟨by rfl, ?_⟩) hHeld ?_ ?_
        rotate_left
        · rintro w' ⟨s0, s1, s2⟩
          go_simp
          with_reducible rfl
        rotate_left
        · simp only [Act.put, List.setIfInBounds_toArray, List.set_cons_zero, List.set_cons_succ, i64_w, i32_w]
          rfl
        refine pure_ (i := 12) (N := (some 52)) (v := ?_) (a' := ?_) #[true, true, true, true, true, true, true, true, true, true, true, true, true, false, false] rfl rfl (by kernel_rfl) (fun _ _ _ h => h) (Or.inl ⟨by rfl, ?_⟩) ?_ ?_
        rotate_left
        · intro w'
          go_simp
          with_reducible rfl
        rotate_left
        · simp only [Act.put, List.setIfInBounds_toArray, List.set_cons_zero, List.set_cons_succ, i64_w, i32_w]
          rfl
        refine pure_ (i := 13) (N := (some 53)) (v := ?_) (a' := ?_) #[true, true, true, true, true, true, true, true, true, true, true, true, true, true, false] rfl rfl (by kernel_rfl) (fun _ _ _ h => h) (Or.inl ⟨by rfl, ?_⟩) ?_ ?_
        rotate_left
        · intro w'
          go_simp
          with_reducible rfl
        rotate_left
        · simp only [Act.put, List.setIfInBounds_toArray, List.set_cons_zero, List.set_cons_succ, i64_w, i32_w]
          rfl
        clear hHeld
        refine last_ (i := 14) (N := none) #[true, true, true, true, true, true, true, true, true, true, true, true, true, true, true] rfl rfl (by kernel_rfl) (by decide) (fun K hK => ?_)
        refine skip_ (w1 := ?_) (by rfl) rfl ?_ ?_
        rotate_left
        · go_simp
          rfl
        refine hK.out _ _ ?_
        clear hK K
        refine done_ (by kernel_rfl) ?_
        have hM9 := hid (show OI (W8.setCell ⟨gm, k, none⟩ (.int .i64 u)) W1.heap.size (.slice (some ⟨gm, 0, none⟩) n cm) n (rowOf n (fun q => mM s t k q - (if q = k then y else 0))) by have h := row_sub (n := n) (k := k) (mM s t k) y; rw [HM0.out, HU.out] at h; have := oi_store hM8.out k u; rwa [h] at this)
        have hU9 := hid (hU8.out.set gm k (.int .i64 u) (Or.inr rfl))
        have hF9 := hid (oi_off (i := k) (u := .int .i64 u) hF8.out (show G ≠ gm by clear e1 e3; omega))
        have bDr : Bw (W8.setCell ⟨gm, k, none⟩ (.int .i64 u)) (W8.setCell ⟨gm, k, none⟩ (.int .i64 u)).drew := Bw.drawn ⟨⟨1, rfl⟩⟩
        replace hM9 := hid (hM9.out.to bDr)
        replace hU9 := hid (hU9.out.bw bDr)
        replace hF9 := hid (hF9.out.to bDr)
        clear p2 xf xm fm e3 bDr hU8 hF8 hM8
        generalize (W8.setCell ⟨gm, k, none⟩ (.int .i64 u)).drew = W9 at *
        go_upto_region 9 with fail
        have hbP := hU9.out.blk HP4.out (by clear e1; omega) (by clear e1; omega)
        have p2 := (blk_cell hbP 2).trans (show _ = some (Value.slice (some ⟨gm, 0, none⟩) n cm) from rfl)
        obtain ⟨xf, _⟩ := oi_cell hF9.out k (by clear e1; omega)
        rw [rd_rowOf _ (by clear e1; omega), show flF s t (k + 1) k = y from (if_pos (by clear e1; omega)).trans HY.out.1] at xf
        obtain ⟨xm, fm⟩ := oi_cell hM9.out (k + 1) hlt
        rw [rd_rowOf _ hlt] at xm
        have hm1 : mM s t k (k + 1) - (if k + 1 = k then y else 0) = mM s t k (k + 1) := by rw [if_neg (by clear e1; omega)]; simp
        rw [hm1] at xm
        obtain ⟨m1, hm2⟩ : ∃ m1, mM s t k (k + 1) = m1 := ⟨_, rfl⟩
        rw [hm2] at xm
        have hmr2 := mM_range hs.f t k (k + 1) HKL.out.2
        rw [hm2] at hmr2
        obtain ⟨u1, hu1⟩ : ∃ u1, m1 + y = u1 := ⟨_, rfl⟩
        have HU1 := hid hu1
        have HM1 := hid (hm1.trans hm2)
        have e4 : IntKind.i64.wrap (m1 + y) = u1 := by rw [← hu1]; exact i64w (by clear e1 hu1 hm1; omega) (by clear e1 hu1 hm1; omega)
        clear hbP hu1 hm1 hm2
        refine start_ (n := 17) (S := fun w' => w'.cell? ⟨P, 2, none⟩ = some (.slice (some ⟨gm, 0, none⟩) n cm) ∧ w'.cell? ⟨gm, k + 1, none⟩ = some (.int .i64 m1) ∧ w'.cell? ⟨G, k, none⟩ = some (.int .i64 y)) (ds := [16]) #[false, false, false, false, false, false, false, false, false, false, false, false, false, false, false, false, false] (by kernel_rfl) rfl rfl ⟨p2, xm, xf⟩ (fun hHeld => ?_)
        refine pure_ (i := 0) (N := (some 54)) (v := ?_) (a' := ?_) #[true, false, false, false, false, false, false, false, false, false, false, false, false, false, false, false, false] rfl rfl (by kernel_rfl) (fun _ _ _ h => h) (Or.inl ⟨by rfl, ?_⟩) ?_ ?_
        rotate_left
        · intro w'
          go_simp
          with_reducible rfl
        rotate_left
        · simp only [Act.put, List.setIfInBounds_toArray, List.set_cons_zero, List.set_cons_succ, i64_w, i32_w]
          rfl
        refine take_ (i := 1) (N := (some 55)) (v := ?_) (a' := ?_) #[true, true, false, false, false, false, false, false, false, false, false, false, false, false, false, false, false] rfl rfl (by kernel_rfl) (fun _ _ _ h => h) (Or.inl ⟨by rfl, ?_⟩) hHeld ?_ ?_
        rotate_left
        · rintro w' ⟨s0, s1, s2⟩
          go_simp
          with_reducible rfl
        rotate_left
        · simp only [Act.put, List.setIfInBounds_toArray, List.set_cons_zero, List.set_cons_succ, i64_w, i32_w]
          rfl
        refine pure_ (i := 2) (N := (some 56)) (v := ?_) (a' := ?_) #[true, true, true, false, false, false, false, false, false, false, false, false, false, false, false, false, false] rfl rfl (by kernel_rfl) (fun _ _ _ h => h) (Or.inl ⟨by rfl, ?_⟩) ?_ ?_
        rotate_left
        · intro w'
          go_simp
          with_reducible rfl
        rotate_left
        · simp only [Act.put, List.setIfInBounds_toArray, List.set_cons_zero, List.set_cons_succ, i64_w, i32_w]
          rfl
        refine pure_ (i := 3) (N := (some 57)) (v := ?_) (a' := ?_) #[true, true, true, true, false, false, false, false, false, false, false, false, false, false, false, false, false] rfl rfl (by kernel_rfl) (fun _ _ _ h => h) (Or.inl ⟨by rfl, ?_⟩) ?_ ?_
        rotate_left
        · intro w'
          go_simp
          with_reducible rfl
        rotate_left
        · simp only [Act.put, List.setIfInBounds_toArray, List.set_cons_zero, List.set_cons_succ, i64_w, i32_w]
          rfl
        refine pure_ (i := 4) (N := (some 58)) (v := ?_) (a' := ?_) #[true, true, true, true, true, false, false, false, false, false, false, false, false, false, false, false, false] rfl rfl (by kernel_rfl) (fun _ _ _ h => h) (Or.inl ⟨by rfl, ?_⟩) ?_ ?_
        rotate_left
        · intro w'
          go_simp
          with_reducible rfl
        rotate_left
        · simp only [Act.put, List.setIfInBounds_toArray, List.set_cons_zero, List.set_cons_succ, i64_w, i32_w]
          rfl
        refine take_ (i := 5) (N := (some 59)) (v := ?_) (a' := ?_) #[true, true, true, true, true, true, false, false, false, false, false, false, false, false, false, false, false] rfl rfl (by kernel_rfl) (fun _ _ _ h => h) (Or.inl ⟨by rfl, ?_⟩) hHeld ?_ ?_
        rotate_left
        · rintro w' ⟨s0, s1, s2⟩
          go_simp
          with_reducible rfl
        rotate_left
        · simp only [Act.put, List.setIfInBounds_toArray, List.set_cons_zero, List.set_cons_succ, i64_w, i32_w]
          rfl
        refine pure_ (i := 6) (N := (some 60)) (v := ?_) (a' := ?_) #[true, true, true, true, true, true, true, false, false, false, false, false, false, false, false, false, false] rfl rfl (by kernel_rfl) (fun _ _ _ h => h) (Or.inl ⟨by rfl, ?_⟩) ?_ ?_
        rotate_left
        · intro w'
          go_simp
          with_reducible rfl
        rotate_left
        · simp only [Act.put, List.setIfInBounds_toArray, List.set_cons_zero, List.set_cons_succ, i64_w, i32_w]
          rfl
        refine pure_ (i := 7) (N := (some 61)) (v := ?_) (a' := ?_) #[true, true, true, true, true, true, true, true, false, false, false, false, false, false, false, false, false] rfl rfl (by kernel_rfl) (fun _ _ _ h => h) (Or.inl ⟨by rfl, ?_⟩) ?_ ?_
        rotate_left
        · intro w'
          go_simp
          with_reducible rfl
        rotate_left
        · simp only [Act.put, List.setIfInBounds_toArray, List.set_cons_zero, List.set_cons_succ, i64_w, i32_w]
          rfl
        refine pure_ (i := 8) (N := (some 62)) (v := ?_) (a' := ?_) #[true, true, true, true, true, true, true, true, true, false, false, false, false, false, false, false, false] rfl rfl (by kernel_rfl) (fun _ _ _ h => h) (Or.inl ⟨by rfl, ?_⟩) ?_ ?_
        rotate_left
        · intro w'
          go_simp
          with_reducible rfl
        rotate_left
        · simp only [Act.put, List.setIfInBounds_toArray, List.set_cons_zero, List.set_cons_succ, i64_w, i32_w]
          rfl
        refine take_ (i := 9) (N := (some 63)) (v := ?_) (a' := ?_) #[true, true, true, true, true, true, true, true, true, true, false, false, false, false, false, false, false] rfl rfl (by kernel_rfl) (fun _ _ _ h => h) (Or.inl ⟨by rfl, ?_⟩) hHeld ?_ ?_
        rotate_left
        · rintro w' ⟨s0, s1, s2⟩
          go_simp
          with_reducible rfl
        rotate_left
        · simp only [Act.put, List.setIfInBounds_toArray, List.set_cons_zero, List.set_cons_succ, i64_w, i32_w]
          rfl
        refine pure_ (i := 10) (N := (some 64)) (v := ?_) (a' := ?_) #[true, true, true, true, true, true, true, true, true, true, true, false, false, false, false, false, false] rfl rfl (by kernel_rfl) (fun _ _ _ h => h) (Or.inl ⟨by rfl, ?_⟩) ?_ ?_
        rotate_left
        · intro w'
          go_simp
          with_reducible rfl
        rotate_left
        · simp only [Act.put, List.setIfInBounds_toArray, List.set_cons_zero, List.set_cons_succ, i64_w, i32_w]
          rfl
        refine pure_ (i := 11) (N := (some 65)) (v := ?_) (a' := ?_) #[true, true, true, true, true, true, true, true, true, true, true, true, false, false, false, false, false] rfl rfl (by kernel_rfl) (fun _ _ _ h => h) (Or.inl ⟨by rfl, ?_⟩) ?_ ?_
        rotate_left
        · intro w'
          go_simp
          with_reducible rfl
        rotate_left
        · simp only [Act.put, List.setIfInBounds_toArray, List.set_cons_zero, List.set_cons_succ, i64_w, i32_w]
          rfl
        refine pure_ (i := 12) (N := (some 66)) (v := ?_) (a' := ?_) #[true, true, true, true, true, true, true, true, true, true, true, true, true, false, false, false, false] rfl rfl (by kernel_rfl) (fun _ _ _ h => h) (Or.inl ⟨by rfl, ?_⟩) ?_ ?_
        rotate_left
        · intro w'
          go_simp
          with_reducible rfl
        rotate_left
        · simp only [Act.put, List.setIfInBounds_toArray, List.set_cons_zero, List.set_cons_succ, i64_w, i32_w]
          rfl
        refine take_ (i := 13) (N := (some 67)) (v := ?_) (a' := ?_) #[true, true, true, true, true, true, true, true, true, true, true, true, true, true, false, false, false] rfl rfl (by kernel_rfl) (fun _ _ _ h => h) (Or.inl ⟨by rfl, ?_⟩) hHeld ?_ ?_
        rotate_left
        · rintro w' ⟨s0, s1, s2⟩
          go_simp
          with_reducible rfl
        rotate_left
        · simp only [Act.put, List.setIfInBounds_toArray, List.set_cons_zero, List.set_cons_succ, i64_w, i32_w]
          rfl
        refine pure_ (i := 14) (N := (some 68)) (v := ?_) (a' := ?_) #[true, true, true, true, true, true, true, true, true, true, true, true, true, true, true, false, false] rfl rfl (by kernel_rfl) (fun _ _ _ h => h) (Or.inl ⟨by rfl, ?_⟩) ?_ ?_
        rotate_left
        · intro w'
          go_simp
          with_reducible rfl
        rotate_left
        · simp only [Act.put, List.setIfInBounds_toArray, List.set_cons_zero, List.set_cons_succ, i64_w, i32_w]
          rfl
        refine pure_ (i := 15) (N := (some 69)) (v := ?_) (a' := ?_) #[true, true, true, true, true, true, true, true, true, true, true, true, true, true, true, true, false] rfl rfl (by kernel_rfl) (fun _ _ _ h => h) (Or.inl ⟨by rfl, ?_⟩) ?_ ?_
        rotate_left
        · intro w'
          go_simp
          with_reducible rfl
        rotate_left
        · simp only [Act.put, List.setIfInBounds_toArray, List.set_cons_zero, List.set_cons_succ, i64_w, i32_w]
          rfl
        clear hHeld
        refine last_ (i := 16) (N := none) #[true, true, true, true, true, true, true, true, true, true, true, true, true, true, true, true, true] rfl rfl (by kernel_rfl) (by decide) (fun K hK => ?_)
        refine skip_ (w1 := ?_) (by rfl) rfl ?_ ?_
        rotate_left
        · go_simp
          rfl
        refine hK.out _ _ ?_
        clear hK K
        refine done_ (by kernel_rfl) ?_
        have hM10 := hid (show OI (W9.setCell ⟨gm, k + 1, none⟩ (.int .i64 u1)) W1.heap.size (.slice (some ⟨gm, 0, none⟩) n cm) n (rowOf n (mM s t (k + 1))) by
          have h1 := oi_store hM9.out (k + 1) u1
          have h2 := row_add (n := n) (k := k + 1) (fun q => mM s t k q - (if q = k then y else 0)) y
          rw [HM1.out, HU1.out] at h2
          rw [h2] at h1
          have h3 : rowOf n (fun q => (mM s t k q - (if q = k then y else 0)) + (if q = k + 1 then y else 0)) = rowOf n (mM s t (k + 1)) := rowOf_congr fun q _ => by have := mM_step s t k q; rwa [HY.out.1] at this
          rw [h3] at h1
          exact h1)
        have hU10 := hid (hU9.out.set gm (k + 1) (.int .i64 u1) (Or.inr rfl))
        have hF10 := hid (oi_off (i := k + 1) (u := .int .i64 u1) hF9.out (show G ≠ gm by clear e1 e4; omega))
        have bDr : Bw (W9.setCell ⟨gm, k + 1, none⟩ (.int .i64 u1)) (W9.setCell ⟨gm, k + 1, none⟩ (.int .i64 u1)).drew := Bw.drawn ⟨⟨1, rfl⟩⟩
        replace hM10 := hid (hM10.out.to bDr)
        replace hU10 := hid (hU10.out.bw bDr)
        replace hF10 := hid (hF10.out.to bDr)
        clear p2 xf xm fm e4 bDr hU9 hF9 hM9
        generalize (W9.setCell ⟨gm, k + 1, none⟩ (.int .i64 u1)).drew = W10 at *
        go_wp2
        go_roundw
        case rel => exact ⟨k + 1, hkk.out.1, by go_num, hU10, hF10, hM10⟩
        case measure => simp [intOf]; clear e1; omega
    · have hk1 : k + 1 = s.lv.length := by rw [HN.out]; clear e1; omega
      have t1 : decide ((k : Int) + 1 < (n : Int)) = false := decide_eq_false (by clear e1; omega)
      have HF5 := hid (show OI wr G (.slice (some ⟨G, 0, none⟩) n n) n (rowOf n (fl s t)) by rw [← rowOf_congr (fun j hj => flF_all hs.f t k hk1 j (by rw [HN.out]; exact hj))]; exact hF.out)
      have HM5 := hid (show OI wr W1.heap.size (.slice (some ⟨gm, 0, none⟩) n cm) n (rowOf n (stM s t)) by rw [← rowOf_congr (fun j hj => mM_all hs.f t k hk1 j (by rw [HN.out]; exact hj))]; exact hM.out)
      have HT5 := hid (show OI wr W1.heap.size (.slice (some ⟨gt, 0, none⟩) n ct) n (rowOf n (tM s t 0)) by
        rw [tM_zero, rowOf_self (by rw [HMS.out.2, HN.out])]
        exact hU.out.oi HO4.out.2.2.1.oi (fun b hb => by have e : gt = b := (by simpa [Value.ownBlock] using hb); clear e1; constructor <;> omega))
      have HU5 := hid hU.out
      have HB5 := hid HB.out
      have HBB5 := hid hbB
      have HBP5 := hid hbP
      have hsz5 := hU.out.size
      clear hU hF hM HB hbB hbP hk1
      go_upto_region 10 with fail
      clear t1 e1 i0 i1 g0 g1 g2 g3 g4 hk hlt
      generalize wr = W5 at *
      have hV0 := hid (Uw.refl W5 gt gt)
      have hG5 : G < W5.heap.size := by omega
      go_wp2
      go_loopw [8] (fun v8 wr => ∃ k : Nat, k ≤ n ∧ v8 = .int .i64 k ∧ Hid (Uw W5 wr gt gt) ∧ Hid (OI wr W1.heap.size (.slice (some ⟨gt, 0, none⟩) n ct) n (rowOf n (tM s t k))) ∧ Hid (OI wr G (.slice (some ⟨G, 0, none⟩) n n) n (rowOf n (fl s t)))) (fun v8 _ => n - (intOf v8).toNat)
      case atStart => exact ⟨0, by omega, rfl, hV0, HT5, HF5⟩
      case round =>
        obtain ⟨k, hk, rfl, hV, hT, hF⟩ := hrel
        have HB := hid (hV.out.to HB5.out (by omega) (by omega))
        have hbB := hV.out.blk HBB5.out (by omega) (by omega)
        have hbP := hV.out.blk HBP5.out (by omega) (by omega)
        have g0 := (blk_cell hbB 0).trans (show _ = some (Value.int .i64 s.ro) from rfl)
        have g1 := (blk_cell hbB 1).trans (show _ = some (Value.slice A0 n c0) from rfl)
        have g2 := (blk_cell hbB 2).trans (show _ = some (Value.slice A1 n c1) from rfl)
        have g3 := (blk_cell hbB 3).trans (show _ = some (Value.slice A2 n c2) from rfl)
        have g4 := (blk_cell hbB 4).trans (show _ = some (Value.slice A3 s.bd.length c3) from rfl)
        have p3 := (blk_cell hbP 3).trans (show _ = some (Value.slice (some ⟨gt, 0, none⟩) n ct) from rfl)
        by_cases hlt : k < n
        · have t1 : decide ((k : Int) < (n : Int)) = true := decide_eq_true (by omega)
          have HKL := hid (show k < s.lv.length by rw [HN.out]; exact hlt)
          obtain ⟨ad1, rfl, x1⟩ := (r1.to HB.out).nat k hlt
          obtain ⟨ad2, rfl, x2⟩ := (r2.to HB.out).nat k hlt
          obtain ⟨xf, _⟩ := oi_cell hF.out k hlt
          rw [rd_rowOf _ hlt] at xf
          obtain ⟨fk, hfk⟩ : ∃ fk, fl s t k = fk := ⟨_, rfl⟩
          have hfb := fl_bd hs.f t k HKL.out
          rw [hfk] at xf hfb
          obtain ⟨R, hR⟩ : ∃ R, bigMax fk 0 = R := ⟨_, rfl⟩
          have hRb : 0 ≤ R ∧ R ≤ 10000000 ∧ (R = 0 → fk ≤ 0) ∧ (0 < R → 0 < fk) := by rw [bigMax_max] at hR; omega
          have HGR := hid (show goR s t k = R by rw [goR, hfk, ← hR, bigMax_max])
          have HFK := hid hfk
          have i0 : (0 : Int) ≤ (k : Int) := by omega
          have i1 : (k : Int) < (n : Int) := by omega
          have e1 : IntKind.i64.wrap ((k : Int) + 1) = (k : Int) + 1 := i64w (by omega) (by omega)
          clear hfk hbP
          by_cases hk0 : k = 0
          · have t5 : decide ((k : Int) > 0) = false := decide_eq_false (by clear e1 hR; omega)
            have t6 : decide (0 < (k : Int)) = false := decide_eq_false (by clear e1 hR; omega)
            have t6n : decide (0 < k) = false := decide_eq_false (by clear e1 hR; omega)
            have HGL := hid (show goL s t k = 0 from by subst hk0; rfl)
            have HK0 := hid hk0
            obtain ⟨a, ha⟩ : ∃ a, oA s t k = a := ⟨_, rfl⟩
            obtain ⟨b, hb⟩ : ∃ b, oB s t k = b := ⟨_, rfl⟩
            have hab := oAB_range hs t k HKL.out
            rw [ha, hb] at hab
            have HGO := hid (go_range hs.f t k HKL.out)
            rw [HGR.out, HGL.out] at HGO
            have HLO := hid (fun W => ((spec_LeafOut (rd s.ts (k : Int)) (rd s.ms (k : Int)) R 0 W (hs.f.mv k HKL.out) (hs.tv k HKL.out) HGO.out.1 HGO.out.2.1 HGO.out.2.2.2.2).mono (show ∀ e w', _ → e = .returned (.tuple #[.int .i64 a, .int .i64 b]) ∧ w' = W from fun e w' h => ⟨by rw [h.1, ← ha, ← hb, oA, oB, HGR.out, HGL.out], h.2.symm⟩)))
            have HZA := hid (show R = 0 → a = 0 from fun h => by rw [← ha]; exact oA_zero s t k (by rw [HFK.out]; exact hRb.2.2.1 h))
            have HZB := hid (show 0 = 0 → b = 0 from fun h => by
              rw [← hb]
              refine oB_zero s t k ?_
              have h1 := HGL.out
              rw [goL] at h1
              clear e1 hR
              omega)
            have HAB := hid (And.intro ha hb)
            have hkk := hid (show k + 1 ≤ n ∧ n - (k + 1) < n - k by clear e1 hR; omega)
            clear ha hb hk0
            go_upto_region 17 with fail
            go_quiet ((go_at_call 70; exact Calls.quiet_of_same (HLO.out _)))
            go_upto_region 18 with fail
            have bQ : Bw wr (wr.drewN nq) := Bw.drawn ⟨⟨nq, rfl⟩⟩
            have hV6 := hid (hV.out.bw bQ)
            have hT6 := hid (hT.out.to bQ)
            have hF6 := hid (hF.out.to bQ)
            replace p3 := pw_cell_below bQ.out p3
            clear g0 g1 g2 g3 g4 x1 x2 xf t5 t6 t6n bQ hV hT hF HB hR hbB
            generalize wr.drewN nq = W6 at *
            obtain ⟨xt, ft⟩ := oi_cell hT6.out k hlt
            rw [rd_rowOf _ hlt] at xt
            obtain ⟨t0, ht0⟩ : ∃ t0, tM s t k k = t0 := ⟨_, rfl⟩
            have htr := tM_range hs t k k (Nat.le_of_lt HKL.out) HKL.out
            rw [ht0] at xt htr
            obtain ⟨u1, hu1⟩ : ∃ u1, t0 - a = u1 := ⟨_, rfl⟩
            obtain ⟨u, hu⟩ : ∃ u, u1 - b = u := ⟨_, rfl⟩
            have HU := hid (show t0 - (a + b) = u by clear e1; omega)
            have e5 : IntKind.i64.wrap (t0 - a) = u1 := by rw [← hu1]; exact i64w (by clear e1 hu1 hu; omega) (by clear e1 hu1 hu; omega)
            have e6 : IntKind.i64.wrap (u1 - b) = u := by rw [← hu]; exact i64w (by clear e1 e5 hu; omega) (by clear e1 e5 hu; omega)
            have HT0 := hid ht0
            clear hu1 hu ht0
            refine start_ (n := 14) (S := fun w' => w'.cell? ⟨P, 3, none⟩ = some (.slice (some ⟨gt, 0, none⟩) n ct) ∧ w'.cell? ⟨gt, k, none⟩ = some (.int .i64 t0)) (ds := [13]) #[false, false, false, false, false, false, false, false, false, false, false, false, false, false] (by kernel_rfl) rfl rfl ⟨p3, xt⟩ (fun hHeld => ?_)
            refine pure_ (i := 0) (N := (some 107)) (v := ?_) (a' := ?_) #[true, false, false, false, false, false, false, false, false, false, false, false, false, false] rfl rfl (by kernel_rfl) (fun _ _ _ h => h) (Or.inl ⟨by rfl, ?_⟩) ?_ ?_
            rotate_left
            · intro w'
              go_simp
              with_reducible rfl
            rotate_left
            · simp only [Act.put, List.setIfInBounds_toArray, List.set_cons_zero, List.set_cons_succ, i64_w, i32_w]
              rfl
            refine take_ (i := 1) (N := (some 108)) (v := ?_) (a' := ?_) #[true, true, false, false, false, false, false, false, false, false, false, false, false, false] rfl rfl (by kernel_rfl) (fun _ _ _ h => h) (Or.inl ⟨by rfl, ?_⟩) hHeld ?_ ?_
            rotate_left
            · rintro w' ⟨s0, s1⟩
              go_simp
              with_reducible rfl
            rotate_left
            · simp only [Act.put, List.setIfInBounds_toArray, List.set_cons_zero, List.set_cons_succ, i64_w, i32_w]
              rfl
            refine pure_ (i := 2) (N := (some 109)) (v := ?_) (a' := ?_) #[true, true, true, false, false, false, false, false, false, false, false, false, false, false] rfl rfl (by kernel_rfl) (fun _ _ _ h => h) (Or.inl ⟨by rfl, ?_⟩) ?_ ?_
            rotate_left
            · intro w'
              go_simp
              with_reducible rfl
            rotate_left
            · simp only [Act.put, List.setIfInBounds_toArray, List.set_cons_zero, List.set_cons_succ, i64_w, i32_w]
              rfl
            refine pure_ (i := 3) (N := (some 110)) (v := ?_) (a' := ?_) #[true, true, true, true, false, false, false, false, false, false, false, false, false, false] rfl rfl (by kernel_rfl) (fun _ _ _ h => h) (Or.inl ⟨by rfl, ?_⟩) ?_ ?_
            rotate_left
            · intro w'
              go_simp
              with_reducible rfl
            rotate_left
            · simp only [Act.put, List.setIfInBounds_toArray, List.set_cons_zero, List.set_cons_succ, i64_w, i32_w]
              rfl
            refine take_ (i := 4) (N := (some 111)) (v := ?_) (a' := ?_) #[true, true, true, true, true, false, false, false, false, false, false, false, false, false] rfl rfl (by kernel_rfl) (fun _ _ _ h => h) (Or.inl ⟨by rfl, ?_⟩) hHeld ?_ ?_
            rotate_left
            · rintro w' ⟨s0, s1⟩
              go_simp
              with_reducible rfl
            rotate_left
            · simp only [Act.put, List.setIfInBounds_toArray, List.set_cons_zero, List.set_cons_succ, i64_w, i32_w]
              rfl
            refine pure_ (i := 5) (N := (some 112)) (v := ?_) (a' := ?_) #[true, true, true, true, true, true, false, false, false, false, false, false, false, false] rfl rfl (by kernel_rfl) (fun _ _ _ h => h) (Or.inl ⟨by rfl, ?_⟩) ?_ ?_
            rotate_left
            · intro w'
              go_simp
              with_reducible rfl
            rotate_left
            · simp only [Act.put, List.setIfInBounds_toArray, List.set_cons_zero, List.set_cons_succ, i64_w, i32_w]
              rfl
            refine pure_ (i := 6) (N := (some 113)) (v := ?_) (a' := ?_) #[true, true, true, true, true, true, true, false, false, false, false, false, false, false] rfl rfl (by kernel_rfl) (fun _ _ _ h => h) (Or.inl ⟨by rfl, ?_⟩) ?_ ?_
            rotate_left
            · intro w'
              go_simp
              with_reducible rfl
            rotate_left
            · simp only [Act.put, List.setIfInBounds_toArray, List.set_cons_zero, List.set_cons_succ, i64_w, i32_w]
              rfl
            refine take_ (i := 7) (N := (some 114)) (v := ?_) (a' := ?_) #[true, true, true, true, true, true, true, true, false, false, false, false, false, false] rfl rfl (by kernel_rfl) (fun _ _ _ h => h) (Or.inl ⟨by rfl, ?_⟩) hHeld ?_ ?_
            rotate_left
            · rintro w' ⟨s0, s1⟩
              go_simp
              with_reducible rfl
            rotate_left
            · simp only [Act.put, List.setIfInBounds_toArray, List.set_cons_zero, List.set_cons_succ, i64_w, i32_w]
              rfl
            refine pure_ (i := 8) (N := (some 115)) (v := ?_) (a' := ?_) #[true, true, true, true, true, true, true, true, true, false, false, false, false, false] rfl rfl (by kernel_rfl) (fun _ _ _ h => h) (Or.inl ⟨by rfl, ?_⟩) ?_ ?_
            rotate_left
            · intro w'
              go_simp
              with_reducible rfl
            rotate_left
            · simp only [Act.put, List.setIfInBounds_toArray, List.set_cons_zero, List.set_cons_succ, i64_w, i32_w]
              rfl
            refine pure_ (i := 9) (N := (some 116)) (v := ?_) (a' := ?_) #[true, true, true, true, true, true, true, true, true, true, false, false, false, false] rfl rfl (by kernel_rfl) (fun _ _ _ h => h) (Or.inl ⟨by rfl, ?_⟩) ?_ ?_
            rotate_left
            · intro w'
              go_simp
              with_reducible rfl
            rotate_left
            · simp only [Act.put, List.setIfInBounds_toArray, List.set_cons_zero, List.set_cons_succ, i64_w, i32_w]
              rfl
            refine pure_ (i := 10) (N := (some 117)) (v := ?_) (a' := ?_) #[true, true, true, true, true, true, true, true, true, true, true, false, false, false] rfl rfl (by kernel_rfl) (fun _ _ _ h => h) (Or.inl ⟨by rfl, ?_⟩) ?_ ?_
            rotate_left
            · intro w'
              go_simp
              with_reducible rfl
            rotate_left
            · simp only [Act.put, List.setIfInBounds_toArray, List.set_cons_zero, List.set_cons_succ, i64_w, i32_w]
              rfl
            refine pure_ (i := 11) (N := (some 118)) (v := ?_) (a' := ?_) #[true, true, true, true, true, true, true, true, true, true, true, true, false, false] rfl rfl (by kernel_rfl) (fun _ _ _ h => h) (Or.inl ⟨by rfl, ?_⟩) ?_ ?_
            rotate_left
            · intro w'
              go_simp
              with_reducible rfl
            rotate_left
            · simp only [Act.put, List.setIfInBounds_toArray, List.set_cons_zero, List.set_cons_succ, i64_w, i32_w]
              rfl
            refine pure_ (i := 12) (N := (some 119)) (v := ?_) (a' := ?_) #[true, true, true, true, true, true, true, true, true, true, true, true, true, false] rfl rfl (by kernel_rfl) (fun _ _ _ h => h) (Or.inl ⟨by rfl, ?_⟩) ?_ ?_
            rotate_left
            · intro w'
              go_simp
              with_reducible rfl
            rotate_left
            · simp only [Act.put, List.setIfInBounds_toArray, List.set_cons_zero, List.set_cons_succ, i64_w, i32_w]
              rfl
            clear hHeld
            refine last_ (i := 13) (N := none) #[true, true, true, true, true, true, true, true, true, true, true, true, true, true] rfl rfl (by kernel_rfl) (by decide) (fun K hK => ?_)
            refine skip_ (w1 := ?_) (by rfl) rfl ?_ ?_
            rotate_left
            · go_simp
              rfl
            refine hK.out _ _ ?_
            clear hK K
            refine done_ (by kernel_rfl) ?_
            have hT7 := hid (show OI (W6.setCell ⟨gt, k, none⟩ (.int .i64 u)) W1.heap.size (.slice (some ⟨gt, 0, none⟩) n ct) n (rowOf n (fun q => tM s t k q - (if q = k then a + b else 0))) from by have h := row_sub (n := n) (k := k) (tM s t k) (a + b); rw [HT0.out, HU.out] at h; have := oi_store hT6.out k u; rwa [h] at this)
            have hV7 := hid (hV6.out.set gt (k) (.int .i64 u) (Or.inl rfl))
            have hF7 := hid (oi_off (i := k) (u := .int .i64 u) hF6.out (show G ≠ gt by clear e1 e5 e6; omega))
            have bDr : Bw (W6.setCell ⟨gt, k, none⟩ (.int .i64 u)) (W6.setCell ⟨gt, k, none⟩ (.int .i64 u)).drew := Bw.drawn ⟨⟨1, rfl⟩⟩
            replace hT7 := hid (hT7.out.to bDr)
            replace hV7 := hid (hV7.out.bw bDr)
            replace hF7 := hid (hF7.out.to bDr)
            replace p3 := pw_cell_below bDr.out (cell_offp (i := k) (u := .int .i64 u) (g := gt) p3 (show P ≠ gt by clear e1 e5 e6; omega))
            clear bDr
            generalize (W6.setCell ⟨gt, k, none⟩ (.int .i64 u)).drew = W7 at *
            clear e5 e6 xt ft hV6 hT6 hF6
            by_cases hRp : 0 < R
            · have t7 : decide (R > 0) = true := decide_eq_true hRp
              have t8 : decide (0 < R) = true := decide_eq_true hRp
              have hk1 : k + 1 < n := Decidable.byContradiction fun h => by
                have h1 := (fl_range hs.f t k HKL.out).2.2 (by rw [HN.out]; exact h)
                rw [HFK.out] at h1
                have := hRb.2.2.2 hRp
                clear e1
                omega
              have i2 : (0 : Int) ≤ (k : Int) + 1 := by clear e1; omega
              have i3 : (k : Int) + 1 < (n : Int) := by clear e1; omega
              obtain ⟨xt, ft⟩ := oi_cell hT7.out (k + 1) hk1
              rw [rd_rowOf _ hk1] at xt
              have hv : (tM s t k (k + 1) - (if k + 1 = k then a + b else 0)) = tM s t k (k + 1) := by rw [if_neg (by clear e1; omega)]; simp
              rw [hv] at xt
              obtain ⟨t2, ht2⟩ : ∃ t2, tM s t k (k + 1) = t2 := ⟨_, rfl⟩
              have htr2 := tM_range hs t k (k + 1) (Nat.le_of_lt HKL.out) (by rw [HN.out]; exact hk1)
              rw [ht2] at xt htr2
              have HV2 := hid (hv.trans ht2)
              obtain ⟨u2, hu2⟩ : ∃ u2, t2 + a = u2 := ⟨_, rfl⟩
              have HU2 := hid hu2
              have e7 : IntKind.i64.wrap (t2 + a) = u2 := by rw [← hu2]; exact i64w (by clear e1 hu2; omega) (by clear e1 hu2; omega)
              clear hv ht2 hu2
              go_upto_region 20 with fail
              refine start_ (n := 14) (S := fun w' => w'.cell? ⟨P, 3, none⟩ = some (.slice (some ⟨gt, 0, none⟩) n ct) ∧ w'.cell? ⟨gt, k + 1, none⟩ = some (.int .i64 t2)) (ds := [13]) #[false, false, false, false, false, false, false, false, false, false, false, false, false, false] (by kernel_rfl) rfl rfl ⟨p3, xt⟩ (fun hHeld => ?_)
              refine pure_ (i := 0) (N := (some 122)) (v := ?_) (a' := ?_) #[true, false, false, false, false, false, false, false, false, false, false, false, false, false] rfl rfl (by kernel_rfl) (fun _ _ _ h => h) (Or.inl ⟨by rfl, ?_⟩) ?_ ?_
              rotate_left
              · intro w'
                go_simp
                with_reducible rfl
              rotate_left
              · simp only [Act.put, List.setIfInBounds_toArray, List.set_cons_zero, List.set_cons_succ, i64_w, i32_w]
                rfl
              refine take_ (i := 1) (N := (some 123)) (v := ?_) (a' := ?_) #[true, true, false, false, false, false, false, false, false, false, false, false, false, false] rfl rfl (by kernel_rfl) (fun _ _ _ h => h) (Or.inl ⟨by rfl, ?_⟩) hHeld ?_ ?_
              rotate_left
              · rintro w' ⟨s0, s1⟩
                go_simp
                with_reducible rfl
              rotate_left
              · simp only [Act.put, List.setIfInBounds_toArray, List.set_cons_zero, List.set_cons_succ, i64_w, i32_w]
                rfl
              refine pure_ (i := 2) (N := (some 124)) (v := ?_) (a' := ?_) #[true, true, true, false, false, false, false, false, false, false, false, false, false, false] rfl rfl (by kernel_rfl) (fun _ _ _ h => h) (Or.inl ⟨by rfl, ?_⟩) ?_ ?_
              rotate_left
              · intro w'
                go_simp
                with_reducible rfl
              rotate_left
              · simp only [Act.put, List.setIfInBounds_toArray, List.set_cons_zero, List.set_cons_succ, i64_w, i32_w]
                rfl
              refine pure_ (i := 3) (N := (some 125)) (v := ?_) (a' := ?_) #[true, true, true, true, false, false, false, false, false, false, false, false, false, false] rfl rfl (by kernel_rfl) (fun _ _ _ h => h) (Or.inl ⟨by rfl, ?_⟩) ?_ ?_
              rotate_left
              · intro w'
                go_simp
                with_reducible rfl
              rotate_left
              · simp only [Act.put, List.setIfInBounds_toArray, List.set_cons_zero, List.set_cons_succ, i64_w, i32_w]
                rfl
              refine pure_ (i := 4) (N := (some 126)) (v := ?_) (a' := ?_) #[true, true, true, true, true, false, false, false, false, false, false, false, false, false] rfl rfl (by kernel_rfl) (fun _ _ _ h => h) (Or.inl ⟨by rfl, ?_⟩) ?_ ?_
              rotate_left
              · intro w'
                go_simp
                with_reducible rfl
              rotate_left
              · simp only [Act.put, List.setIfInBounds_toArray, List.set_cons_zero, List.set_cons_succ, i64_w, i32_w]
                rfl
              refine take_ (i := 5) (N := (some 127)) (v := ?_) (a' := ?_) #[true, true, true, true, true, true, false, false, false, false, false, false, false, false] rfl rfl (by kernel_rfl) (fun _ _ _ h => h) (Or.inl ⟨by rfl, ?_⟩) hHeld ?_ ?_
              rotate_left
              · rintro w' ⟨s0, s1⟩
                go_simp
                with_reducible rfl
              rotate_left
              · simp only [Act.put, List.setIfInBounds_toArray, List.set_cons_zero, List.set_cons_succ, i64_w, i32_w]
                rfl
              refine pure_ (i := 6) (N := (some 128)) (v := ?_) (a' := ?_) #[true, true, true, true, true, true, true, false, false, false, false, false, false, false] rfl rfl (by kernel_rfl) (fun _ _ _ h => h) (Or.inl ⟨by rfl, ?_⟩) ?_ ?_
              rotate_left
              · intro w'
                go_simp
                with_reducible rfl
              rotate_left
              · simp only [Act.put, List.setIfInBounds_toArray, List.set_cons_zero, List.set_cons_succ, i64_w, i32_w]
                rfl
              refine pure_ (i := 7) (N := (some 129)) (v := ?_) (a' := ?_) #[true, true, true, true, true, true, true, true, false, false, false, false, false, false] rfl rfl (by kernel_rfl) (fun _ _ _ h => h) (Or.inl ⟨by rfl, ?_⟩) ?_ ?_
              rotate_left
              · intro w'
                go_simp
                with_reducible rfl
              rotate_left
              · simp only [Act.put, List.setIfInBounds_toArray, List.set_cons_zero, List.set_cons_succ, i64_w, i32_w]
                rfl
              refine pure_ (i := 8) (N := (some 130)) (v := ?_) (a' := ?_) #[true, true, true, true, true, true, true, true, true, false, false, false, false, false] rfl rfl (by kernel_rfl) (fun _ _ _ h => h) (Or.inl ⟨by rfl, ?_⟩) ?_ ?_
              rotate_left
              · intro w'
                go_simp
                with_reducible rfl
              rotate_left
              · simp only [Act.put, List.setIfInBounds_toArray, List.set_cons_zero, List.set_cons_succ, i64_w, i32_w]
                rfl
              refine take_ (i := 9) (N := (some 131)) (v := ?_) (a' := ?_) #[true, true, true, true, true, true, true, true, true, true, false, false, false, false] rfl rfl (by kernel_rfl) (fun _ _ _ h => h) (Or.inl ⟨by rfl, ?_⟩) hHeld ?_ ?_
              rotate_left
              · rintro w' ⟨s0, s1⟩
                go_simp
                with_reducible rfl
              rotate_left
              · simp only [Act.put, List.setIfInBounds_toArray, List.set_cons_zero, List.set_cons_succ, i64_w, i32_w]
                rfl
              refine pure_ (i := 10) (N := (some 132)) (v := ?_) (a' := ?_) #[true, true, true, true, true, true, true, true, true, true, true, false, false, false] rfl rfl (by kernel_rfl) (fun _ _ _ h => h) (Or.inl ⟨by rfl, ?_⟩) ?_ ?_
              rotate_left
              · intro w'
                go_simp
                with_reducible rfl
              rotate_left
              · simp only [Act.put, List.setIfInBounds_toArray, List.set_cons_zero, List.set_cons_succ, i64_w, i32_w]
                rfl
              refine pure_ (i := 11) (N := (some 133)) (v := ?_) (a' := ?_) #[true, true, true, true, true, true, true, true, true, true, true, true, false, false] rfl rfl (by kernel_rfl) (fun _ _ _ h => h) (Or.inl ⟨by rfl, ?_⟩) ?_ ?_
              rotate_left
              · intro w'
                go_simp
                with_reducible rfl
              rotate_left
              · simp only [Act.put, List.setIfInBounds_toArray, List.set_cons_zero, List.set_cons_succ, i64_w, i32_w]
                rfl
              refine pure_ (i := 12) (N := (some 134)) (v := ?_) (a' := ?_) #[true, true, true, true, true, true, true, true, true, true, true, true, true, false] rfl rfl (by kernel_rfl) (fun _ _ _ h => h) (Or.inl ⟨by rfl, ?_⟩) ?_ ?_
              rotate_left
              · intro w'
                go_simp
                with_reducible rfl
              rotate_left
              · simp only [Act.put, List.setIfInBounds_toArray, List.set_cons_zero, List.set_cons_succ, i64_w, i32_w]
                rfl
              clear hHeld
              refine last_ (i := 13) (N := none) #[true, true, true, true, true, true, true, true, true, true, true, true, true, true] rfl rfl (by kernel_rfl) (by decide) (fun K hK => ?_)
              refine skip_ (w1 := ?_) (by rfl) rfl ?_ ?_
              rotate_left
              · go_simp
                rfl
              refine hK.out _ _ ?_
              clear hK K
              refine done_ (by kernel_rfl) ?_
              have hT8 := hid (show OI (W7.setCell ⟨gt, k + 1, none⟩ (.int .i64 u2)) W1.heap.size (.slice (some ⟨gt, 0, none⟩) n ct) n (rowOf n (fun q => (tM s t k q - (if q = k then a + b else 0)) + (if q = k + 1 then a else 0))) from by have h := row_add (n := n) (k := k + 1) (fun q => tM s t k q - (if q = k then a + b else 0)) a; rw [HV2.out, HU2.out] at h; have := oi_store hT7.out (k + 1) u2; rwa [h] at this)
              have hV8 := hid (hV7.out.set gt (k + 1) (.int .i64 u2) (Or.inl rfl))
              have hF8 := hid (oi_off (i := k + 1) (u := .int .i64 u2) hF7.out (show G ≠ gt by clear e1 e7; omega))
              have bDr : Bw (W7.setCell ⟨gt, k + 1, none⟩ (.int .i64 u2)) (W7.setCell ⟨gt, k + 1, none⟩ (.int .i64 u2)).drew := Bw.drawn ⟨⟨1, rfl⟩⟩
              replace hT8 := hid (hT8.out.to bDr)
              replace hV8 := hid (hV8.out.bw bDr)
              replace hF8 := hid (hF8.out.to bDr)
              replace p3 := pw_cell_below bDr.out (cell_offp (i := k + 1) (u := .int .i64 u2) (g := gt) p3 (show P ≠ gt by clear e1 e7; omega))
              clear bDr
              generalize (W7.setCell ⟨gt, k + 1, none⟩ (.int .i64 u2)).drew = W8 at *
              clear e7 xt ft hV7 hT7 hF7 t7 t8 i2 i3
              have HT8 := hid (show OI W8 W1.heap.size (.slice (some ⟨gt, 0, none⟩) n ct) n (rowOf n (fun q => ((tM s t k q - (if q = k then a + b else 0)) + (if q = k + 1 then a else 0)) + (if q + 1 = k then b else 0))) by rw [← rowOf_congr (show ∀ q, q < n → (fun q => (tM s t k q - (if q = k then a + b else 0)) + (if q = k + 1 then a else 0)) q = (fun q => ((tM s t k q - (if q = k then a + b else 0)) + (if q = k + 1 then a else 0)) + (if q + 1 = k then b else 0)) q from fun q _ => by have h0 := HZB.out rfl; show _ = _ + _; rw [show (if q + 1 = k then b else 0) = 0 by split <;> first | exact h0 | rfl]; exact (Int.add_zero _).symm)]; exact hT8.out)
              have HT9 := hid (show OI _ W1.heap.size (.slice (some ⟨gt, 0, none⟩) n ct) n (rowOf n (tM s t (k + 1))) by rw [← rowOf_congr (show ∀ q, q < n → (fun q => ((tM s t k q - (if q = k then a + b else 0)) + (if q = k + 1 then a else 0)) + (if q + 1 = k then b else 0)) q = tM s t (k + 1) q from fun q _ => by have := tM_step s t k q; rwa [HAB.out.1, HAB.out.2] at this)]; exact HT8.out)
              clear p3
              go_wp2
              go_roundw
              case rel => exact ⟨k + 1, hkk.out.1, by go_num, hV8, HT9, hF8⟩
              case measure => simp [intOf]; clear e1; omega
            · have t7 : decide (R > 0) = false := decide_eq_false hRp
              have t8 : decide (0 < R) = false := decide_eq_false hRp
              have hT8 := hid (show OI W7 W1.heap.size (.slice (some ⟨gt, 0, none⟩) n ct) n (rowOf n (fun q => (tM s t k q - (if q = k then a + b else 0)) + (if q = k + 1 then a else 0))) by rw [← row_nil (n := n) (k := k + 1) (fun q => tM s t k q - (if q = k then a + b else 0)) (HZA.out (by clear e1; omega))]; exact hT7.out)
              clear hT7
              have HT8 := hid (show OI W7 W1.heap.size (.slice (some ⟨gt, 0, none⟩) n ct) n (rowOf n (fun q => ((tM s t k q - (if q = k then a + b else 0)) + (if q = k + 1 then a else 0)) + (if q + 1 = k then b else 0))) by rw [← rowOf_congr (show ∀ q, q < n → (fun q => (tM s t k q - (if q = k then a + b else 0)) + (if q = k + 1 then a else 0)) q = (fun q => ((tM s t k q - (if q = k then a + b else 0)) + (if q = k + 1 then a else 0)) + (if q + 1 = k then b else 0)) q from fun q _ => by have h0 := HZB.out rfl; show _ = _ + _; rw [show (if q + 1 = k then b else 0) = 0 by split <;> first | exact h0 | rfl]; exact (Int.add_zero _).symm)]; exact hT8.out)
              have HT9 := hid (show OI _ W1.heap.size (.slice (some ⟨gt, 0, none⟩) n ct) n (rowOf n (tM s t (k + 1))) by rw [← rowOf_congr (show ∀ q, q < n → (fun q => ((tM s t k q - (if q = k then a + b else 0)) + (if q = k + 1 then a else 0)) + (if q + 1 = k then b else 0)) q = tM s t (k + 1) q from fun q _ => by have := tM_step s t k q; rwa [HAB.out.1, HAB.out.2] at this)]; exact HT8.out)
              clear p3
              go_wp2
              go_roundw
              case rel => exact ⟨k + 1, hkk.out.1, by go_num, hV7, HT9, hF7⟩
              case measure => simp [intOf]; clear e1; omega
          · have t5 : decide ((k : Int) > 0) = true := decide_eq_true (by clear e1 hR; omega)
            have t6 : decide (0 < (k : Int)) = true := decide_eq_true (by clear e1 hR; omega)
            have t6n : decide (0 < k) = true := decide_eq_true (by clear e1 hR; omega)
            obtain ⟨j, hkj⟩ : ∃ j, k = j + 1 := ⟨k - 1, by clear e1 hR; omega⟩
            have hjl : j < n := by clear e1 hR; omega
            obtain ⟨xj, _⟩ := oi_cell hF.out j hjl
            rw [rd_rowOf _ hjl] at xj
            obtain ⟨fj, hfj⟩ : ∃ fj, fl s t j = fj := ⟨_, rfl⟩
            have hfb2 := fl_bd hs.f t j (by rw [HN.out]; exact hjl)
            rw [hfj] at xj hfb2
            obtain ⟨L, hL⟩ : ∃ L, bigMax (-fj) 0 = L := ⟨_, rfl⟩
            have HLb := hid (show 0 ≤ L ∧ L ≤ 10000000 by rw [bigMax_max] at hL; clear e1 hR; omega)
            have HGL := hid (show goL s t k = L by rw [goL, hkj]; show max (-(fl s t j)) 0 = L; rw [hfj, ← hL, bigMax_max])
            have e8 : IntKind.i64.wrap ((k : Int) - 1) = (j : Int) := by rw [hkj]; exact (i64w (by clear e1 hR hL; omega) (by clear e1 hR hL; omega)).trans (by clear e1 hR hL; omega)
            have e9 : IntKind.i64.wrap (-fj) = -fj := i64w (by clear e1 e8 hR hL; omega) (by clear e1 e8 hR hL; omega)
            have j0 : (0 : Int) ≤ (j : Int) := by clear e1 e8 e9 hR hL; omega
            have j1 : (j : Int) < (n : Int) := by clear e1 e8 e9 hR hL; omega
            have HKJ := hid hkj
            clear hkj hfj
            obtain ⟨a, ha⟩ : ∃ a, oA s t k = a := ⟨_, rfl⟩
            obtain ⟨b, hb⟩ : ∃ b, oB s t k = b := ⟨_, rfl⟩
            have hab := oAB_range hs t k HKL.out
            rw [ha, hb] at hab
            have HGO := hid (go_range hs.f t k HKL.out)
            rw [HGR.out, HGL.out] at HGO
            have HLO := hid (fun W => ((spec_LeafOut (rd s.ts (k : Int)) (rd s.ms (k : Int)) R L W (hs.f.mv k HKL.out) (hs.tv k HKL.out) HGO.out.1 HGO.out.2.1 HGO.out.2.2.2.2).mono (show ∀ e w', _ → e = .returned (.tuple #[.int .i64 a, .int .i64 b]) ∧ w' = W from fun e w' h => ⟨by rw [h.1, ← ha, ← hb, oA, oB, HGR.out, HGL.out], h.2.symm⟩)))
            have HZA := hid (show R = 0 → a = 0 from fun h => by rw [← ha]; exact oA_zero s t k (by rw [HFK.out]; exact hRb.2.2.1 h))
            have HZB := hid (show L = 0 → b = 0 from fun h => by
              rw [← hb]
              refine oB_zero s t k ?_
              have h1 := HGL.out
              rw [goL] at h1
              clear e1 hR e8 e9 hL
              omega)
            have HAB := hid (And.intro ha hb)
            have hkk := hid (show k + 1 ≤ n ∧ n - (k + 1) < n - k by clear e1 hR e8 e9 hL; omega)
            clear ha hb hk0
            go_upto_region 17 with fail
            go_quiet ((go_at_call 70; exact Calls.quiet_of_same (HLO.out _)))
            go_upto_region 18 with fail
            have bQ : Bw wr (wr.drewN nq) := Bw.drawn ⟨⟨nq, rfl⟩⟩
            have hV6 := hid (hV.out.bw bQ)
            have hT6 := hid (hT.out.to bQ)
            have hF6 := hid (hF.out.to bQ)
            replace p3 := pw_cell_below bQ.out p3
            clear g0 g1 g2 g3 g4 x1 x2 xf xj t5 t6 t6n bQ hV hT hF HB hR hbB hL e9
            generalize wr.drewN nq = W6 at *
            obtain ⟨xt, ft⟩ := oi_cell hT6.out k hlt
            rw [rd_rowOf _ hlt] at xt
            obtain ⟨t0, ht0⟩ : ∃ t0, tM s t k k = t0 := ⟨_, rfl⟩
            have htr := tM_range hs t k k (Nat.le_of_lt HKL.out) HKL.out
            rw [ht0] at xt htr
            obtain ⟨u1, hu1⟩ : ∃ u1, t0 - a = u1 := ⟨_, rfl⟩
            obtain ⟨u, hu⟩ : ∃ u, u1 - b = u := ⟨_, rfl⟩
            have HU := hid (show t0 - (a + b) = u by clear e1 e8; omega)
            have e5 : IntKind.i64.wrap (t0 - a) = u1 := by rw [← hu1]; exact i64w (by clear e1 e8 hu1 hu; omega) (by clear e1 e8 hu1 hu; omega)
            have e6 : IntKind.i64.wrap (u1 - b) = u := by rw [← hu]; exact i64w (by clear e1 e8 e5 hu; omega) (by clear e1 e8 e5 hu; omega)
            have HT0 := hid ht0
            clear hu1 hu ht0
            refine start_ (n := 14) (S := fun w' => w'.cell? ⟨P, 3, none⟩ = some (.slice (some ⟨gt, 0, none⟩) n ct) ∧ w'.cell? ⟨gt, k, none⟩ = some (.int .i64 t0)) (ds := [13]) #[false, false, false, false, false, false, false, false, false, false, false, false, false, false] (by kernel_rfl) rfl rfl ⟨p3, xt⟩ (fun hHeld => ?_)
            refine pure_ (i := 0) (N := (some 107)) (v := ?_) (a' := ?_) #[true, false, false, false, false, false, false, false, false, false, false, false, false, false] rfl rfl (by kernel_rfl) (fun _ _ _ h => h) (Or.inl ⟨by rfl, ?_⟩) ?_ ?_
            rotate_left
            · intro w'
              go_simp
              with_reducible rfl
            rotate_left
            · simp only [Act.put, List.setIfInBounds_toArray, List.set_cons_zero, List.set_cons_succ, i64_w, i32_w]
              rfl
            refine take_ (i := 1) (N := (some 108)) (v := ?_) (a' := ?_) #[true, true, false, false, false, false, false, false, false, false, false, false, false, false] rfl rfl (by kernel_rfl) (fun _ _ _ h => h) (Or.inl ⟨by rfl, ?_⟩) hHeld ?_ ?_
            rotate_left
            · rintro w' ⟨s0, s1⟩
              go_simp
              with_reducible rfl
            rotate_left
            · simp only [Act.put, List.setIfInBounds_toArray, List.set_cons_zero, List.set_cons_succ, i64_w, i32_w]
              rfl
            refine pure_ (i := 2) (N := (some 109)) (v := ?_) (a' := ?_) #[true, true, true, false, false, false, false, false, false, false, false, false, false, false] rfl rfl (by kernel_rfl) (fun _ _ _ h => h) (Or.inl ⟨by rfl, ?_⟩) ?_ ?_
            rotate_left
            · intro w'
              go_simp
              with_reducible rfl
            rotate_left
            · simp only [Act.put, List.setIfInBounds_toArray, List.set_cons_zero, List.set_cons_succ, i64_w, i32_w]
              rfl
            refine pure_ (i := 3) (N := (some 110)) (v := ?_) (a' := ?_) #[true, true, true, true, false, false, false, false, false, false, false, false, false, false] rfl rfl (by kernel_rfl) (fun _ _ _ h => h) (Or.inl ⟨by rfl, ?_⟩) ?_ ?_
            rotate_left
            · intro w'
              go_simp
              with_reducible rfl
            rotate_left
            · simp only [Act.put, List.setIfInBounds_toArray, List.set_cons_zero, List.set_cons_succ, i64_w, i32_w]
              rfl
            refine take_ (i := 4) (N := (some 111)) (v := ?_) (a' := ?_) #[true, true, true, true, true, false, false, false, false, false, false, false, false, false] rfl rfl (by kernel_rfl) (fun _ _ _ h => h) (Or.inl ⟨by rfl, ?_⟩) hHeld ?_ ?_
            rotate_left
            · rintro w' ⟨s0, s1⟩
              go_simp
              with_reducible rfl
            rotate_left
            · simp only [Act.put, List.setIfInBounds_toArray, List.set_cons_zero, List.set_cons_succ, i64_w, i32_w]
              rfl
            refine pure_ (i := 5) (N := (some 112)) (v := ?_) (a' := ?_) #[true, true, true, true, true, true, false, false, false, false, false, false, false, false] rfl rfl (by kernel_rfl) (fun _ _ _ h => h) (Or.inl ⟨by rfl, ?_⟩) ?_ ?_
            rotate_left
            · intro w'
              go_simp
              with_reducible rfl
            rotate_left
            · simp only [Act.put, List.setIfInBounds_toArray, List.set_cons_zero, List.set_cons_succ, i64_w, i32_w]
              rfl
            refine pure_ (i := 6) (N := (some 113)) (v := ?_) (a' := ?_) #[true, true, true, true, true, true, true, false, false, false, false, false, false, false] rfl rfl (by kernel_rfl) (fun _ _ _ h => h) (Or.inl ⟨by rfl, ?_⟩) ?_ ?_
            rotate_left
            · intro w'
              go_simp
              with_reducible rfl
            rotate_left
            · simp only [Act.put, List.setIfInBounds_toArray, List.set_cons_zero, List.set_cons_succ, i64_w, i32_w]
              rfl
            refine take_ (i := 7) (N := (some 114)) (v := ?_) (a' := ?_) #[true, true, true, true, true, true, true, true, false, false, false, false, false, false] rfl rfl (by kernel_rfl) (fun _ _ _ h => h) (Or.inl ⟨by rfl, ?_⟩) hHeld ?_ ?_
            rotate_left
            · rintro w' ⟨s0, s1⟩
              go_simp
              with_reducible rfl
            rotate_left
            · simp only [Act.put, List.setIfInBounds_toArray, List.set_cons_zero, List.set_cons_succ, i64_w, i32_w]
              rfl
            refine pure_ (i := 8) (N := (some 115)) (v := ?_) (a' := ?_) #[true, true, true, true, true, true, true, true, true, false, false, false, false, false] rfl rfl (by kernel_rfl) (fun _ _ _ h => h) (Or.inl ⟨by rfl, ?_⟩) ?_ ?_
            rotate_left
            · intro w'
              go_simp
              with_reducible rfl
            rotate_left
            · simp only [Act.put, List.setIfInBounds_toArray, List.set_cons_zero, List.set_cons_succ, i64_w, i32_w]
              rfl
            refine pure_ (i := 9) (N := (some 116)) (v := ?_) (a' := ?_) #[true, true, true, true, true, true, true, true, true, true, false, false, false, false] rfl rfl (by kernel_rfl) (fun _ _ _ h => h) (Or.inl ⟨by rfl, ?_⟩) ?_ ?_
            rotate_left
            · intro w'
              go_simp
              with_reducible rfl
            rotate_left
            · simp only [Act.put, List.setIfInBounds_toArray, List.set_cons_zero, List.set_cons_succ, i64_w, i32_w]
              rfl
            refine pure_ (i := 10) (N := (some 117)) (v := ?_) (a' := ?_) #[true, true, true, true, true, true, true, true, true, true, true, false, false, false] rfl rfl (by kernel_rfl) (fun _ _ _ h => h) (Or.inl ⟨by rfl, ?_⟩) ?_ ?_
            rotate_left
            · intro w'
              go_simp
              with_reducible rfl
            rotate_left
            · simp only [Act.put, List.setIfInBounds_toArray, List.set_cons_zero, List.set_cons_succ, i64_w, i32_w]
              rfl
            refine pure_ (i := 11) (N := (some 118)) (v := ?_) (a' := ?_) #[true, true, true, true, true, true, true, true, true, true, true, true, false, false] rfl rfl (by kernel_rfl) (fun _ _ _ h => h) (Or.inl ⟨by rfl, ?_⟩) ?_ ?_
            rotate_left
            · intro w'
              go_simp
              with_reducible rfl
            rotate_left
            · simp only [Act.put, List.setIfInBounds_toArray, List.set_cons_zero, List.set_cons_succ, i64_w, i32_w]
              rfl
            refine pure_ (i := 12) (N := (some 119)) (v := ?_) (a' := ?_) #[true, true, true, true, true, true, true, true, true, true, true, true, true, false] rfl rfl (by kernel_rfl) (fun _ _ _ h => h) (Or.inl ⟨by rfl, ?_⟩) ?_ ?_
            rotate_left
            · intro w'
              go_simp
              with_reducible rfl
            rotate_left
            · simp only [Act.put, List.setIfInBounds_toArray, List.set_cons_zero, List.set_cons_succ, i64_w, i32_w]
              rfl
            clear hHeld
            refine last_ (i := 13) (N := none) #[true, true, true, true, true, true, true, true, true, true, true, true, true, true] rfl rfl (by kernel_rfl) (by decide) (fun K hK => ?_)
            refine skip_ (w1 := ?_) (by rfl) rfl ?_ ?_
            rotate_left
            · go_simp
              rfl
            refine hK.out _ _ ?_
            clear hK K
            refine done_ (by kernel_rfl) ?_
            have hT7 := hid (show OI (W6.setCell ⟨gt, k, none⟩ (.int .i64 u)) W1.heap.size (.slice (some ⟨gt, 0, none⟩) n ct) n (rowOf n (fun q => tM s t k q - (if q = k then a + b else 0))) from by have h := row_sub (n := n) (k := k) (tM s t k) (a + b); rw [HT0.out, HU.out] at h; have := oi_store hT6.out k u; rwa [h] at this)
            have hV7 := hid (hV6.out.set gt (k) (.int .i64 u) (Or.inl rfl))
            have hF7 := hid (oi_off (i := k) (u := .int .i64 u) hF6.out (show G ≠ gt by clear e1 e5 e6 e8; omega))
            have bDr : Bw (W6.setCell ⟨gt, k, none⟩ (.int .i64 u)) (W6.setCell ⟨gt, k, none⟩ (.int .i64 u)).drew := Bw.drawn ⟨⟨1, rfl⟩⟩
            replace hT7 := hid (hT7.out.to bDr)
            replace hV7 := hid (hV7.out.bw bDr)
            replace hF7 := hid (hF7.out.to bDr)
            replace p3 := pw_cell_below bDr.out (cell_offp (i := k) (u := .int .i64 u) (g := gt) p3 (show P ≠ gt by clear e1 e5 e6 e8; omega))
            clear bDr
            generalize (W6.setCell ⟨gt, k, none⟩ (.int .i64 u)).drew = W7 at *
            clear e5 e6 xt ft hV6 hT6 hF6
            by_cases hRp : 0 < R
            · have t7 : decide (R > 0) = true := decide_eq_true hRp
              have t8 : decide (0 < R) = true := decide_eq_true hRp
              have hk1 : k + 1 < n := Decidable.byContradiction fun h => by
                have h1 := (fl_range hs.f t k HKL.out).2.2 (by rw [HN.out]; exact h)
                rw [HFK.out] at h1
                have := hRb.2.2.2 hRp
                clear e1 e8
                omega
              have i2 : (0 : Int) ≤ (k : Int) + 1 := by clear e1 e8; omega
              have i3 : (k : Int) + 1 < (n : Int) := by clear e1 e8; omega
              obtain ⟨xt, ft⟩ := oi_cell hT7.out (k + 1) hk1
              rw [rd_rowOf _ hk1] at xt
              have hv : (tM s t k (k + 1) - (if k + 1 = k then a + b else 0)) = tM s t k (k + 1) := by rw [if_neg (by clear e1 e8; omega)]; simp
              rw [hv] at xt
              obtain ⟨t2, ht2⟩ : ∃ t2, tM s t k (k + 1) = t2 := ⟨_, rfl⟩
              have htr2 := tM_range hs t k (k + 1) (Nat.le_of_lt HKL.out) (by rw [HN.out]; exact hk1)
              rw [ht2] at xt htr2
              have HV2 := hid (hv.trans ht2)
              obtain ⟨u2, hu2⟩ : ∃ u2, t2 + a = u2 := ⟨_, rfl⟩
              have HU2 := hid hu2
              have e7 : IntKind.i64.wrap (t2 + a) = u2 := by rw [← hu2]; exact i64w (by clear e1 e8 hu2; omega) (by clear e1 e8 hu2; omega)
              clear hv ht2 hu2
              go_upto_region 20 with fail
              refine start_ (n := 14) (S := fun w' => w'.cell? ⟨P, 3, none⟩ = some (.slice (some ⟨gt, 0, none⟩) n ct) ∧ w'.cell? ⟨gt, k + 1, none⟩ = some (.int .i64 t2)) (ds := [13]) #[false, false, false, false, false, false, false, false, false, false, false, false, false, false] (by kernel_rfl) rfl rfl ⟨p3, xt⟩ (fun hHeld => ?_)
              refine pure_ (i := 0) (N := (some 122)) (v := ?_) (a' := ?_) #[true, false, false, false, false, false, false, false, false, false, false, false, false, false] rfl rfl (by kernel_rfl) (fun _ _ _ h => h) (Or.inl ⟨by rfl, ?_⟩) ?_ ?_
              rotate_left
              · intro w'
                go_simp
                with_reducible rfl
              rotate_left
              · simp only [Act.put, List.setIfInBounds_toArray, List.set_cons_zero, List.set_cons_succ, i64_w, i32_w]
                rfl
              refine take_ (i := 1) (N := (some 123)) (v := ?_) (a' := ?_) #[true, true, false, false, false, false, false, false, false, false, false, false, false, false] rfl rfl (by kernel_rfl) (fun _ _ _ h => h) (Or.inl ⟨by rfl, ?_⟩) hHeld ?_ ?_
              rotate_left
              · rintro w' ⟨s0, s1⟩
                go_simp
                with_reducible rfl
              rotate_left
              · simp only [Act.put, List.setIfInBounds_toArray, List.set_cons_zero, List.set_cons_succ, i64_w, i32_w]
                rfl
              refine pure_ (i := 2) (N := (some 124)) (v := ?_) (a' := ?_) #[true, true, true, false, false, false, false, false, false, false, false, false, false, false] rfl rfl (by kernel_rfl) (fun _ _ _ h => h) (Or.inl ⟨by rfl, ?_⟩) ?_ ?_
              rotate_left
              · intro w'
                go_simp
                with_reducible rfl
              rotate_left
              · simp only [Act.put, List.setIfInBounds_toArray, List.set_cons_zero, List.set_cons_succ, i64_w, i32_w]
                rfl
              refine pure_ (i := 3) (N := (some 125)) (v := ?_) (a' := ?_) #[true, true, true, true, false, false, false, false, false, false, false, false, false, false] rfl rfl (by kernel_rfl) (fun _ _ _ h => h) (Or.inl ⟨by rfl, ?_⟩) ?_ ?_
              rotate_left
              · intro w'
                go_simp
                with_reducible rfl
              rotate_left
              · simp only [Act.put, List.setIfInBounds_toArray, List.set_cons_zero, List.set_cons_succ, i64_w, i32_w]
                rfl
              refine pure_ (i := 4) (N := (some 126)) (v := ?_) (a' := ?_) #[true, true, true, true, true, false, false, false, false, false, false, false, false, false] rfl rfl (by kernel_rfl) (fun _ _ _ h => h) (Or.inl ⟨by rfl, ?_⟩) ?_ ?_
              rotate_left
              · intro w'
                go_simp
                with_reducible rfl
              rotate_left
              · simp only [Act.put, List.setIfInBounds_toArray, List.set_cons_zero, List.set_cons_succ, i64_w, i32_w]
                rfl
              refine take_ (i := 5) (N := (some 127)) (v := ?_) (a' := ?_) #[true, true, true, true, true, true, false, false, false, false, false, false, false, false] rfl rfl (by kernel_rfl) (fun _ _ _ h => h) (Or.inl ⟨by rfl, ?_⟩) hHeld ?_ ?_
              rotate_left
              · rintro w' ⟨s0, s1⟩
                go_simp
                with_reducible rfl
              rotate_left
              · simp only [Act.put, List.setIfInBounds_toArray, List.set_cons_zero, List.set_cons_succ, i64_w, i32_w]
                rfl
              refine pure_ (i := 6) (N := (some 128)) (v := ?_) (a' := ?_) #[true, true, true, true, true, true, true, false, false, false, false, false, false, false] rfl rfl (by kernel_rfl) (fun _ _ _ h => h) (Or.inl ⟨by rfl, ?_⟩) ?_ ?_
              rotate_left
              · intro w'
                go_simp
                with_reducible rfl
              rotate_left
              · simp only [Act.put, List.setIfInBounds_toArray, List.set_cons_zero, List.set_cons_succ, i64_w, i32_w]
                rfl
              refine pure_ (i := 7) (N := (some 129)) (v := ?_) (a' := ?_) #[true, true, true, true, true, true, true, true, false, false, false, false, false, false] rfl rfl (by kernel_rfl) (fun _ _ _ h => h) (Or.inl ⟨by rfl, ?_⟩) ?_ ?_
              rotate_left
              · intro w'
                go_simp
                with_reducible rfl
              rotate_left
              · simp only [Act.put, List.setIfInBounds_toArray, List.set_cons_zero, List.set_cons_succ, i64_w, i32_w]
                rfl
              refine pure_ (i := 8) (N := (some 130)) (v := ?_) (a' := ?_) #[true, true, true, true, true, true, true, true, true, false, false, false, false, false] rfl rfl (by kernel_rfl) (fun _ _ _ h => h) (Or.inl ⟨by rfl, ?_⟩) ?_ ?_
              rotate_left
              · intro w'
                go_simp
                with_reducible rfl
              rotate_left
              · simp only [Act.put, List.setIfInBounds_toArray, List.set_cons_zero, List.set_cons_succ, i64_w, i32_w]
                rfl
              refine take_ (i := 9) (N := (some 131)) (v := ?_) (a' := ?_) #[true, true, true, true, true, true, true, true, true, true, false, false, false, false] rfl rfl (by kernel_rfl) (fun _ _ _ h => h) (Or.inl ⟨by rfl, ?_⟩) hHeld ?_ ?_
              rotate_left
              · rintro w' ⟨s0, s1⟩
                go_simp
                with_reducible rfl
              rotate_left
              · simp only [Act.put, List.setIfInBounds_toArray, List.set_cons_zero, List.set_cons_succ, i64_w, i32_w]
                rfl
              refine pure_ (i := 10) (N := (some 132)) (v := ?_) (a' := ?_) #[true, true, true, true, true, true, true, true, true, true, true, false, false, false] rfl rfl (by kernel_rfl) (fun _ _ _ h => h) (Or.inl ⟨by rfl, ?_⟩) ?_ ?_
              rotate_left
              · intro w'
                go_simp
                with_reducible rfl
              rotate_left
              · simp only [Act.put, List.setIfInBounds_toArray, List.set_cons_zero, List.set_cons_succ, i64_w, i32_w]
                rfl
              refine pure_ (i := 11) (N := (some 133)) (v := ?_) (a' := ?_) #[true, true, true, true, true, true, true, true, true, true, true, true, false, false] rfl rfl (by kernel_rfl) (fun _ _ _ h => h) (Or.inl ⟨by rfl, ?_⟩) ?_ ?_
              rotate_left
              · intro w'
                go_simp
                with_reducible rfl
              rotate_left
              · simp only [Act.put, List.setIfInBounds_toArray, List.set_cons_zero, List.set_cons_succ, i64_w, i32_w]
                rfl
              refine pure_ (i := 12) (N := (some 134)) (v := ?_) (a' := ?_) #[true, true, true, true, true, true, true, true, true, true, true, true, true, false] rfl rfl (by kernel_rfl) (fun _ _ _ h => h) (Or.inl ⟨by rfl, ?_⟩) ?_ ?_
              rotate_left
              · intro w'
                go_simp
                with_reducible rfl
              rotate_left
              · simp only [Act.put, List.setIfInBounds_toArray, List.set_cons_zero, List.set_cons_succ, i64_w, i32_w]
                rfl
              clear hHeld
              refine last_ (i := 13) (N := none) #[true, true, true, true, true, true, true, true, true, true, true, true, true, true] rfl rfl (by kernel_rfl) (by decide) (fun K hK => ?_)
              refine skip_ (w1 := ?_) (by rfl) rfl ?_ ?_
              rotate_left
              · go_simp
                rfl
              refine hK.out _ _ ?_
              clear hK K
              refine done_ (by kernel_rfl) ?_
              have hT8 := hid (show OI (W7.setCell ⟨gt, k + 1, none⟩ (.int .i64 u2)) W1.heap.size (.slice (some ⟨gt, 0, none⟩) n ct) n (rowOf n (fun q => (tM s t k q - (if q = k then a + b else 0)) + (if q = k + 1 then a else 0))) from by have h := row_add (n := n) (k := k + 1) (fun q => tM s t k q - (if q = k then a + b else 0)) a; rw [HV2.out, HU2.out] at h; have := oi_store hT7.out (k + 1) u2; rwa [h] at this)
              have hV8 := hid (hV7.out.set gt (k + 1) (.int .i64 u2) (Or.inl rfl))
              have hF8 := hid (oi_off (i := k + 1) (u := .int .i64 u2) hF7.out (show G ≠ gt by clear e1 e7 e8; omega))
              have bDr : Bw (W7.setCell ⟨gt, k + 1, none⟩ (.int .i64 u2)) (W7.setCell ⟨gt, k + 1, none⟩ (.int .i64 u2)).drew := Bw.drawn ⟨⟨1, rfl⟩⟩
              replace hT8 := hid (hT8.out.to bDr)
              replace hV8 := hid (hV8.out.bw bDr)
              replace hF8 := hid (hF8.out.to bDr)
              replace p3 := pw_cell_below bDr.out (cell_offp (i := k + 1) (u := .int .i64 u2) (g := gt) p3 (show P ≠ gt by clear e1 e7 e8; omega))
              clear bDr
              generalize (W7.setCell ⟨gt, k + 1, none⟩ (.int .i64 u2)).drew = W8 at *
              clear e7 xt ft hV7 hT7 hF7 t7 t8 i2 i3
              by_cases hLp : 0 < L
              · have t9 : decide (L > 0) = true := decide_eq_true hLp
                have t10 : decide (0 < L) = true := decide_eq_true hLp
                obtain ⟨xt, ft⟩ := oi_cell hT8.out j hjl
                rw [rd_rowOf _ hjl] at xt
                have hv : ((tM s t k j - (if j = k then a + b else 0)) + (if j = k + 1 then a else 0)) = tM s t k j := by rw [if_neg (by have := HKJ.out; clear e1 e8; omega), if_neg (by have := HKJ.out; clear e1 e8; omega)]; simp
                rw [hv] at xt
                obtain ⟨t3, ht3⟩ : ∃ t3, tM s t k j = t3 := ⟨_, rfl⟩
                have htr3 := tM_range hs t k j (Nat.le_of_lt HKL.out) (by rw [HN.out]; exact hjl)
                rw [ht3] at xt htr3
                have HV3 := hid (hv.trans ht3)
                obtain ⟨u3, hu3⟩ : ∃ u3, t3 + b = u3 := ⟨_, rfl⟩
                have HU3 := hid hu3
                have e10 : IntKind.i64.wrap (t3 + b) = u3 := by rw [← hu3]; exact i64w (by clear e1 e8 hu3; omega) (by clear e1 e8 hu3; omega)
                clear hv ht3 hu3
                go_upto_region 22 with fail
                refine start_ (n := 14) (S := fun w' => w'.cell? ⟨P, 3, none⟩ = some (.slice (some ⟨gt, 0, none⟩) n ct) ∧ w'.cell? ⟨gt, j, none⟩ = some (.int .i64 t3)) (ds := [13]) #[false, false, false, false, false, false, false, false, false, false, false, false, false, false] (by kernel_rfl) rfl rfl ⟨p3, xt⟩ (fun hHeld => ?_)
                refine pure_ (i := 0) (N := (some 137)) (v := ?_) (a' := ?_) #[true, false, false, false, false, false, false, false, false, false, false, false, false, false] rfl rfl (by kernel_rfl) (fun _ _ _ h => h) (Or.inl ⟨by rfl, ?_⟩) ?_ ?_
                rotate_left
                · intro w'
                  go_simp
                  with_reducible rfl
                rotate_left
                · simp only [Act.put, List.setIfInBounds_toArray, List.set_cons_zero, List.set_cons_succ, i64_w, i32_w]
                  rfl
                refine take_ (i := 1) (N := (some 138)) (v := ?_) (a' := ?_) #[true, true, false, false, false, false, false, false, false, false, false, false, false, false] rfl rfl (by kernel_rfl) (fun _ _ _ h => h) (Or.inl ⟨by rfl, ?_⟩) hHeld ?_ ?_
                rotate_left
                · rintro w' ⟨s0, s1⟩
                  go_simp
                  with_reducible rfl
                rotate_left
                · simp only [Act.put, List.setIfInBounds_toArray, List.set_cons_zero, List.set_cons_succ, i64_w, i32_w]
                  rfl
                refine pure_ (i := 2) (N := (some 139)) (v := ?_) (a' := ?_) #[true, true, true, false, false, false, false, false, false, false, false, false, false, false] rfl rfl (by kernel_rfl) (fun _ _ _ h => h) (Or.inl ⟨by rfl, ?_⟩) ?_ ?_
                rotate_left
                · intro w'
                  go_simp
                  with_reducible rfl
                rotate_left
                · simp only [Act.put, List.setIfInBounds_toArray, List.set_cons_zero, List.set_cons_succ, i64_w, i32_w]
                  rfl
                refine pure_ (i := 3) (N := (some 140)) (v := ?_) (a' := ?_) #[true, true, true, true, false, false, false, false, false, false, false, false, false, false] rfl rfl (by kernel_rfl) (fun _ _ _ h => h) (Or.inl ⟨by rfl, ?_⟩) ?_ ?_
                rotate_left
                · intro w'
                  go_simp
                  with_reducible rfl
                rotate_left
                · simp only [Act.put, List.setIfInBounds_toArray, List.set_cons_zero, List.set_cons_succ, i64_w, i32_w]
                  rfl
                refine pure_ (i := 4) (N := (some 141)) (v := ?_) (a' := ?_) #[true, true, true, true, true, false, false, false, false, false, false, false, false, false] rfl rfl (by kernel_rfl) (fun _ _ _ h => h) (Or.inl ⟨by rfl, ?_⟩) ?_ ?_
                rotate_left
                · intro w'
                  go_simp
                  with_reducible rfl
                rotate_left
                · simp only [Act.put, List.setIfInBounds_toArray, List.set_cons_zero, List.set_cons_succ, i64_w, i32_w]
                  rfl
                refine take_ (i := 5) (N := (some 142)) (v := ?_) (a' := ?_) #[true, true, true, true, true, true, false, false, false, false, false, false, false, false] rfl rfl (by kernel_rfl) (fun _ _ _ h => h) (Or.inl ⟨by rfl, ?_⟩) hHeld ?_ ?_
                rotate_left
                · rintro w' ⟨s0, s1⟩
                  go_simp
                  with_reducible rfl
                rotate_left
                · simp only [Act.put, List.setIfInBounds_toArray, List.set_cons_zero, List.set_cons_succ, i64_w, i32_w]
                  rfl
                refine pure_ (i := 6) (N := (some 143)) (v := ?_) (a' := ?_) #[true, true, true, true, true, true, true, false, false, false, false, false, false, false] rfl rfl (by kernel_rfl) (fun _ _ _ h => h) (Or.inl ⟨by rfl, ?_⟩) ?_ ?_
                rotate_left
                · intro w'
                  go_simp
                  with_reducible rfl
                rotate_left
                · simp only [Act.put, List.setIfInBounds_toArray, List.set_cons_zero, List.set_cons_succ, i64_w, i32_w]
                  rfl
                refine pure_ (i := 7) (N := (some 144)) (v := ?_) (a' := ?_) #[true, true, true, true, true, true, true, true, false, false, false, false, false, false] rfl rfl (by kernel_rfl) (fun _ _ _ h => h) (Or.inl ⟨by rfl, ?_⟩) ?_ ?_
                rotate_left
                · intro w'
                  go_simp
                  with_reducible rfl
                rotate_left
                · simp only [Act.put, List.setIfInBounds_toArray, List.set_cons_zero, List.set_cons_succ, i64_w, i32_w]
                  rfl
                refine pure_ (i := 8) (N := (some 145)) (v := ?_) (a' := ?_) #[true, true, true, true, true, true, true, true, true, false, false, false, false, false] rfl rfl (by kernel_rfl) (fun _ _ _ h => h) (Or.inl ⟨by rfl, ?_⟩) ?_ ?_
                rotate_left
                · intro w'
                  go_simp
                  with_reducible rfl
                rotate_left
                · simp only [Act.put, List.setIfInBounds_toArray, List.set_cons_zero, List.set_cons_succ, i64_w, i32_w]
                  rfl
                refine take_ (i := 9) (N := (some 146)) (v := ?_) (a' := ?_) #[true, true, true, true, true, true, true, true, true, true, false, false, false, false] rfl rfl (by kernel_rfl) (fun _ _ _ h => h) (Or.inl ⟨by rfl, ?_⟩) hHeld ?_ ?_
                rotate_left
                · rintro w' ⟨s0, s1⟩
                  go_simp
                  with_reducible rfl
                rotate_left
                · simp only [Act.put, List.setIfInBounds_toArray, List.set_cons_zero, List.set_cons_succ, i64_w, i32_w]
                  rfl
                refine pure_ (i := 10) (N := (some 147)) (v := ?_) (a' := ?_) #[true, true, true, true, true, true, true, true, true, true, true, false, false, false] rfl rfl (by kernel_rfl) (fun _ _ _ h => h) (Or.inl ⟨by rfl, ?_⟩) ?_ ?_
                rotate_left
                · intro w'
                  go_simp
                  with_reducible rfl
                rotate_left
                · simp only [Act.put, List.setIfInBounds_toArray, List.set_cons_zero, List.set_cons_succ, i64_w, i32_w]
                  rfl
                refine pure_ (i := 11) (N := (some 148)) (v := ?_) (a' := ?_) #[true, true, true, true, true, true, true, true, true, true, true, true, false, false] rfl rfl (by kernel_rfl) (fun _ _ _ h => h) (Or.inl ⟨by rfl, ?_⟩) ?_ ?_
                rotate_left
                · intro w'
                  go_simp
                  with_reducible rfl
                rotate_left
                · simp only [Act.put, List.setIfInBounds_toArray, List.set_cons_zero, List.set_cons_succ, i64_w, i32_w]
                  rfl
                refine pure_ (i := 12) (N := (some 149)) (v := ?_) (a' := ?_) #[true, true, true, true, true, true, true, true, true, true, true, true, true, false] rfl rfl (by kernel_rfl) (fun _ _ _ h => h) (Or.inl ⟨by rfl, ?_⟩) ?_ ?_
                rotate_left
                · intro w'
                  go_simp
                  with_reducible rfl
                rotate_left
                · simp only [Act.put, List.setIfInBounds_toArray, List.set_cons_zero, List.set_cons_succ, i64_w, i32_w]
                  rfl
                clear hHeld
                refine last_ (i := 13) (N := none) #[true, true, true, true, true, true, true, true, true, true, true, true, true, true] rfl rfl (by kernel_rfl) (by decide) (fun K hK => ?_)
                refine skip_ (w1 := ?_) (by rfl) rfl ?_ ?_
                rotate_left
                · go_simp
                  rfl
                refine hK.out _ _ ?_
                clear hK K
                refine done_ (by kernel_rfl) ?_
                have hT9 := hid (show OI (W8.setCell ⟨gt, j, none⟩ (.int .i64 u3)) W1.heap.size (.slice (some ⟨gt, 0, none⟩) n ct) n (rowOf n (fun q => ((tM s t k q - (if q = k then a + b else 0)) + (if q = k + 1 then a else 0)) + (if q + 1 = k then b else 0))) from by have h := row_add (n := n) (k := j) (fun q => (tM s t k q - (if q = k then a + b else 0)) + (if q = k + 1 then a else 0)) b; rw [HV3.out, HU3.out] at h; have h1 := oi_store hT8.out j u3; rw [h] at h1; rw [← rowOf_congr (show ∀ q, q < n → (fun q => ((tM s t k q - (if q = k then a + b else 0)) + (if q = k + 1 then a else 0)) + (if q = j then b else 0)) q = (fun q => ((tM s t k q - (if q = k then a + b else 0)) + (if q = k + 1 then a else 0)) + (if q + 1 = k then b else 0)) q from fun q _ => by show _ + _ = _ + _; rw [tri_j HKJ.out])]; exact h1)
                have hV9 := hid (hV8.out.set gt (j) (.int .i64 u3) (Or.inl rfl))
                have hF9 := hid (oi_off (i := j) (u := .int .i64 u3) hF8.out (show G ≠ gt by clear e1 e8 e10; omega))
                have bDr : Bw (W8.setCell ⟨gt, j, none⟩ (.int .i64 u3)) (W8.setCell ⟨gt, j, none⟩ (.int .i64 u3)).drew := Bw.drawn ⟨⟨1, rfl⟩⟩
                replace hT9 := hid (hT9.out.to bDr)
                replace hV9 := hid (hV9.out.bw bDr)
                replace hF9 := hid (hF9.out.to bDr)
                replace p3 := pw_cell_below bDr.out (cell_offp (i := j) (u := .int .i64 u3) (g := gt) p3 (show P ≠ gt by clear e1 e8 e10; omega))
                clear bDr
                generalize (W8.setCell ⟨gt, j, none⟩ (.int .i64 u3)).drew = W9 at *
                clear e10 xt ft t9 t10 hV8 hT8 hF8
                have HT9 := hid (show OI _ W1.heap.size (.slice (some ⟨gt, 0, none⟩) n ct) n (rowOf n (tM s t (k + 1))) by rw [← rowOf_congr (show ∀ q, q < n → (fun q => ((tM s t k q - (if q = k then a + b else 0)) + (if q = k + 1 then a else 0)) + (if q + 1 = k then b else 0)) q = tM s t (k + 1) q from fun q _ => by have := tM_step s t k q; rwa [HAB.out.1, HAB.out.2] at this)]; exact hT9.out)
                clear p3
                go_wp2
                go_roundw
                case rel => exact ⟨k + 1, hkk.out.1, by go_num, hV9, HT9, hF9⟩
                case measure => simp [intOf]; clear e1 e8; omega
              · have t9 : decide (L > 0) = false := decide_eq_false hLp
                have t10 : decide (0 < L) = false := decide_eq_false hLp
                have HT8 := hid (show OI W8 W1.heap.size (.slice (some ⟨gt, 0, none⟩) n ct) n (rowOf n (fun q => ((tM s t k q - (if q = k then a + b else 0)) + (if q = k + 1 then a else 0)) + (if q + 1 = k then b else 0))) by rw [← rowOf_congr (show ∀ q, q < n → (fun q => (tM s t k q - (if q = k then a + b else 0)) + (if q = k + 1 then a else 0)) q = (fun q => ((tM s t k q - (if q = k then a + b else 0)) + (if q = k + 1 then a else 0)) + (if q + 1 = k then b else 0)) q from fun q _ => by have h0 := HZB.out (by have := HLb.out; clear e1 e8; omega); show _ = _ + _; rw [show (if q + 1 = k then b else 0) = 0 by split <;> first | exact h0 | rfl]; exact (Int.add_zero _).symm)]; exact hT8.out)
                have HT9 := hid (show OI _ W1.heap.size (.slice (some ⟨gt, 0, none⟩) n ct) n (rowOf n (tM s t (k + 1))) by rw [← rowOf_congr (show ∀ q, q < n → (fun q => ((tM s t k q - (if q = k then a + b else 0)) + (if q = k + 1 then a else 0)) + (if q + 1 = k then b else 0)) q = tM s t (k + 1) q from fun q _ => by have := tM_step s t k q; rwa [HAB.out.1, HAB.out.2] at this)]; exact HT8.out)
                clear p3
                go_wp2
                go_roundw
                case rel => exact ⟨k + 1, hkk.out.1, by go_num, hV8, HT9, hF8⟩
                case measure => simp [intOf]; clear e1 e8; omega
            · have t7 : decide (R > 0) = false := decide_eq_false hRp
              have t8 : decide (0 < R) = false := decide_eq_false hRp
              have hT8 := hid (show OI W7 W1.heap.size (.slice (some ⟨gt, 0, none⟩) n ct) n (rowOf n (fun q => (tM s t k q - (if q = k then a + b else 0)) + (if q = k + 1 then a else 0))) by rw [← row_nil (n := n) (k := k + 1) (fun q => tM s t k q - (if q = k then a + b else 0)) (HZA.out (by clear e1 e8; omega))]; exact hT7.out)
              clear hT7
              by_cases hLp : 0 < L
              · have t9 : decide (L > 0) = true := decide_eq_true hLp
                have t10 : decide (0 < L) = true := decide_eq_true hLp
                obtain ⟨xt, ft⟩ := oi_cell hT8.out j hjl
                rw [rd_rowOf _ hjl] at xt
                have hv : ((tM s t k j - (if j = k then a + b else 0)) + (if j = k + 1 then a else 0)) = tM s t k j := by rw [if_neg (by have := HKJ.out; clear e1 e8; omega), if_neg (by have := HKJ.out; clear e1 e8; omega)]; simp
                rw [hv] at xt
                obtain ⟨t3, ht3⟩ : ∃ t3, tM s t k j = t3 := ⟨_, rfl⟩
                have htr3 := tM_range hs t k j (Nat.le_of_lt HKL.out) (by rw [HN.out]; exact hjl)
                rw [ht3] at xt htr3
                have HV3 := hid (hv.trans ht3)
                obtain ⟨u3, hu3⟩ : ∃ u3, t3 + b = u3 := ⟨_, rfl⟩
                have HU3 := hid hu3
                have e10 : IntKind.i64.wrap (t3 + b) = u3 := by rw [← hu3]; exact i64w (by clear e1 e8 hu3; omega) (by clear e1 e8 hu3; omega)
                clear hv ht3 hu3
                go_upto_region 22 with fail
                refine start_ (n := 14) (S := fun w' => w'.cell? ⟨P, 3, none⟩ = some (.slice (some ⟨gt, 0, none⟩) n ct) ∧ w'.cell? ⟨gt, j, none⟩ = some (.int .i64 t3)) (ds := [13]) #[false, false, false, false, false, false, false, false, false, false, false, false, false, false] (by kernel_rfl) rfl rfl ⟨p3, xt⟩ (fun hHeld => ?_)
                refine pure_ (i := 0) (N := (some 137)) (v := ?_) (a' := ?_) #[true, false, false, false, false, false, false, false, false, false, false, false, false, false] rfl rfl (by kernel_rfl) (fun _ _ _ h => h) (Or.inl ⟨by rfl, ?_⟩) ?_ ?_
                rotate_left
                · intro w'
                  go_simp
                  with_reducible rfl
                rotate_left
                · simp only [Act.put, List.setIfInBounds_toArray, List.set_cons_zero, List.set_cons_succ, i64_w, i32_w]
                  rfl
                refine take_ (i := 1) (N := (some 138)) (v := ?_) (a' := ?_) #[true, true, false, false, false, false, false, false, false, false, false, false, false, false] rfl rfl (by kernel_rfl) (fun _ _ _ h => h) (Or.inl ⟨by rfl, ?_⟩) hHeld ?_ ?_
                rotate_left
                · rintro w' ⟨s0, s1⟩
                  go_simp
                  with_reducible rfl
                rotate_left
                · simp only [Act.put, List.setIfInBounds_toArray, List.set_cons_zero, List.set_cons_succ, i64_w, i32_w]
                  rfl
                refine pure_ (i := 2) (N := (some 139)) (v := ?_) (a' := ?_) #[true, true, true, false, false, false, false, false, false, false, false, false, false, false] rfl rfl (by kernel_rfl) (fun _ _ _ h => h) (Or.inl ⟨by rfl, ?_⟩) ?_ ?_
                rotate_left
                · intro w'
                  go_simp
                  with_reducible rfl
                rotate_left
                · simp only [Act.put, List.setIfInBounds_toArray, List.set_cons_zero, List.set_cons_succ, i64_w, i32_w]
                  rfl
                refine pure_ (i := 3) (N := (some 140)) (v := ?_) (a' := ?_) #[true, true, true, true, false, false, false, false, false, false, false, false, false, false] rfl rfl (by kernel_rfl) (fun _ _ _ h => h) (Or.inl ⟨by rfl, ?_⟩) ?_ ?_
                rotate_left
                · intro w'
                  go_simp
                  with_reducible rfl
                rotate_left
                · simp only [Act.put, List.setIfInBounds_toArray, List.set_cons_zero, List.set_cons_succ, i64_w, i32_w]
                  rfl
                refine pure_ (i := 4) (N := (some 141)) (v := ?_) (a' := ?_) #[true, true, true, true, true, false, false, false, false, false, false, false, false, false] rfl rfl (by kernel_rfl) (fun _ _ _ h => h) (Or.inl ⟨by rfl, ?_⟩) ?_ ?_
                rotate_left
                · intro w'
                  go_simp
                  with_reducible rfl
                rotate_left
                · simp only [Act.put, List.setIfInBounds_toArray, List.set_cons_zero, List.set_cons_succ, i64_w, i32_w]
                  rfl
                refine take_ (i := 5) (N := (some 142)) (v := ?_) (a' := ?_) #[true, true, true, true, true, true, false, false, false, false, false, false, false, false] rfl rfl (by kernel_rfl) (fun _ _ _ h => h) (Or.inl ⟨by rfl, ?_⟩) hHeld ?_ ?_
                rotate_left
                · rintro w' ⟨s0, s1⟩
                  go_simp
                  with_reducible rfl
                rotate_left
                · simp only [Act.put, List.setIfInBounds_toArray, List.set_cons_zero, List.set_cons_succ, i64_w, i32_w]
                  rfl
                refine pure_ (i := 6) (N := (some 143)) (v := ?_) (a' := ?_) #[true, true, true, true, true, true, true, false, false, false, false, false, false, false] rfl rfl (by kernel_rfl) (fun _ _ _ h => h) (Or.inl ⟨by rfl, ?_⟩) ?_ ?_
                rotate_left
                · intro w'
                  go_simp
                  with_reducible rfl
                rotate_left
                · simp only [Act.put, List.setIfInBounds_toArray, List.set_cons_zero, List.set_cons_succ, i64_w, i32_w]
                  rfl
                refine pure_ (i := 7) (N := (some 144)) (v := ?_) (a' := ?_) #[true, true, true, true, true, true, true, true, false, false, false, false, false, false] rfl rfl (by kernel_rfl) (fun _ _ _ h => h) (Or.inl ⟨by rfl, ?_⟩) ?_ ?_
                rotate_left
                · intro w'
                  go_simp
                  with_reducible rfl
                rotate_left
                · simp only [Act.put, List.setIfInBounds_toArray, List.set_cons_zero, List.set_cons_succ, i64_w, i32_w]
                  rfl
                refine pure_ (i := 8) (N := (some 145)) (v := ?_) (a' := ?_) #[true, true, true, true, true, true, true, true, true, false, false, false, false, false] rfl rfl (by kernel_rfl) (fun _ _ _ h => h) (Or.inl ⟨by rfl, ?_⟩) ?_ ?_
                rotate_left
                · intro w'
                  go_simp
                  with_reducible rfl
                rotate_left
                · simp only [Act.put, List.setIfInBounds_toArray, List.set_cons_zero, List.set_cons_succ, i64_w, i32_w]
                  rfl
                refine take_ (i := 9) (N := (some 146)) (v := ?_) (a' := ?_) #[true, true, true, true, true, true, true, true, true, true, false, false, false, false] rfl rfl (by kernel_rfl) (fun _ _ _ h => h) (Or.inl ⟨by rfl, ?_⟩) hHeld ?_ ?_
                rotate_left
                · rintro w' ⟨s0, s1⟩
                  go_simp
                  with_reducible rfl
                rotate_left
                · simp only [Act.put, List.setIfInBounds_toArray, List.set_cons_zero, List.set_cons_succ, i64_w, i32_w]
                  rfl
                refine pure_ (i := 10) (N := (some 147)) (v := ?_) (a' := ?_) #[true, true, true, true, true, true, true, true, true, true, true, false, false, false] rfl rfl (by kernel_rfl) (fun _ _ _ h => h) (Or.inl ⟨by rfl, ?_⟩) ?_ ?_
                rotate_left
                · intro w'
                  go_simp
                  with_reducible rfl
                rotate_left
                · simp only [Act.put, List.setIfInBounds_toArray, List.set_cons_zero, List.set_cons_succ, i64_w, i32_w]
                  rfl
                refine pure_ (i := 11) (N := (some 148)) (v := ?_) (a' := ?_) #[true, true, true, true, true, true, true, true, true, true, true, true, false, false] rfl rfl (by kernel_rfl) (fun _ _ _ h => h) (Or.inl ⟨by rfl, ?_⟩) ?_ ?_
                rotate_left
                · intro w'
                  go_simp
                  with_reducible rfl
                rotate_left
                · simp only [Act.put, List.setIfInBounds_toArray, List.set_cons_zero, List.set_cons_succ, i64_w, i32_w]
                  rfl
                refine pure_ (i := 12) (N := (some 149)) (v := ?_) (a' := ?_) #[true, true, true, true, true, true, true, true, true, true, true, true, true, false] rfl rfl (by kernel_rfl) (fun _ _ _ h => h) (Or.inl ⟨by rfl, ?_⟩) ?_ ?_
                rotate_left
                · intro w'
                  go_simp
                  with_reducible rfl
                rotate_left
                · simp only [Act.put, List.setIfInBounds_toArray, List.set_cons_zero, List.set_cons_succ, i64_w, i32_w]
                  rfl
                clear hHeld
                refine last_ (i := 13) (N := none) #[true, true, true, true, true, true, true, true, true, true, true, true, true, true] rfl rfl (by kernel_rfl) (by decide) (fun K hK => ?_)
                refine skip_ (w1 := ?_) (by rfl) rfl ?_ ?_
                rotate_left
                · go_simp
                  rfl
                refine hK.out _ _ ?_
                clear hK K
                refine done_ (by kernel_rfl) ?_
                have hT9 := hid (show OI (W7.setCell ⟨gt, j, none⟩ (.int .i64 u3)) W1.heap.size (.slice (some ⟨gt, 0, none⟩) n ct) n (rowOf n (fun q => ((tM s t k q - (if q = k then a + b else 0)) + (if q = k + 1 then a else 0)) + (if q + 1 = k then b else 0))) from by have h := row_add (n := n) (k := j) (fun q => (tM s t k q - (if q = k then a + b else 0)) + (if q = k + 1 then a else 0)) b; rw [HV3.out, HU3.out] at h; have h1 := oi_store hT8.out j u3; rw [h] at h1; rw [← rowOf_congr (show ∀ q, q < n → (fun q => ((tM s t k q - (if q = k then a + b else 0)) + (if q = k + 1 then a else 0)) + (if q = j then b else 0)) q = (fun q => ((tM s t k q - (if q = k then a + b else 0)) + (if q = k + 1 then a else 0)) + (if q + 1 = k then b else 0)) q from fun q _ => by show _ + _ = _ + _; rw [tri_j HKJ.out])]; exact h1)
                have hV9 := hid (hV7.out.set gt (j) (.int .i64 u3) (Or.inl rfl))
                have hF9 := hid (oi_off (i := j) (u := .int .i64 u3) hF7.out (show G ≠ gt by clear e1 e8 e10; omega))
                have bDr : Bw (W7.setCell ⟨gt, j, none⟩ (.int .i64 u3)) (W7.setCell ⟨gt, j, none⟩ (.int .i64 u3)).drew := Bw.drawn ⟨⟨1, rfl⟩⟩
                replace hT9 := hid (hT9.out.to bDr)
                replace hV9 := hid (hV9.out.bw bDr)
                replace hF9 := hid (hF9.out.to bDr)
                replace p3 := pw_cell_below bDr.out (cell_offp (i := j) (u := .int .i64 u3) (g := gt) p3 (show P ≠ gt by clear e1 e8 e10; omega))
                clear bDr
                generalize (W7.setCell ⟨gt, j, none⟩ (.int .i64 u3)).drew = W9 at *
                clear e10 xt ft t9 t10 hV7 hT8 hF7
                have HT9 := hid (show OI _ W1.heap.size (.slice (some ⟨gt, 0, none⟩) n ct) n (rowOf n (tM s t (k + 1))) by rw [← rowOf_congr (show ∀ q, q < n → (fun q => ((tM s t k q - (if q = k then a + b else 0)) + (if q = k + 1 then a else 0)) + (if q + 1 = k then b else 0)) q = tM s t (k + 1) q from fun q _ => by have := tM_step s t k q; rwa [HAB.out.1, HAB.out.2] at this)]; exact hT9.out)
                clear p3
                go_wp2
                go_roundw
                case rel => exact ⟨k + 1, hkk.out.1, by go_num, hV9, HT9, hF9⟩
                case measure => simp [intOf]; clear e1 e8; omega
              · have t9 : decide (L > 0) = false := decide_eq_false hLp
                have t10 : decide (0 < L) = false := decide_eq_false hLp
                have HT8 := hid (show OI W7 W1.heap.size (.slice (some ⟨gt, 0, none⟩) n ct) n (rowOf n (fun q => ((tM s t k q - (if q = k then a + b else 0)) + (if q = k + 1 then a else 0)) + (if q + 1 = k then b else 0))) by rw [← rowOf_congr (show ∀ q, q < n → (fun q => (tM s t k q - (if q = k then a + b else 0)) + (if q = k + 1 then a else 0)) q = (fun q => ((tM s t k q - (if q = k then a + b else 0)) + (if q = k + 1 then a else 0)) + (if q + 1 = k then b else 0)) q from fun q _ => by have h0 := HZB.out (by have := HLb.out; clear e1 e8; omega); show _ = _ + _; rw [show (if q + 1 = k then b else 0) = 0 by split <;> first | exact h0 | rfl]; exact (Int.add_zero _).symm)]; exact hT8.out)
                have HT9 := hid (show OI _ W1.heap.size (.slice (some ⟨gt, 0, none⟩) n ct) n (rowOf n (tM s t (k + 1))) by rw [← rowOf_congr (show ∀ q, q < n → (fun q => ((tM s t k q - (if q = k then a + b else 0)) + (if q = k + 1 then a else 0)) + (if q + 1 = k then b else 0)) q = tM s t (k + 1) q from fun q _ => by have := tM_step s t k q; rwa [HAB.out.1, HAB.out.2] at this)]; exact HT8.out)
                clear p3
                go_wp2
                go_roundw
                case rel => exact ⟨k + 1, hkk.out.1, by go_num, hV7, HT9, hF7⟩
                case measure => simp [intOf]; clear e1 e8; omega
        · obtain rfl : n = k := by omega
          have t1 : decide ((n : Int) < (n : Int)) = false := decide_eq_false (by omega)
          have hkn : n = s.lv.length := HN.out.symm
          have hor : ∀ (v : Value) (b : Nat), v.ownBlock = some b → (v.ownBlock = none ∨ v.ownBlock ≠ some gm) → (v.ownBlock = none ∨ v.ownBlock ≠ some gt) → b ≠ gm ∧ b ≠ gt := fun v b hb h1 h2 => by
            rw [hb] at h1 h2
            simpa using And.intro h1 h2
          obtain ⟨o0, o1, o2, o3, ap⟩ := HO4.out
          have hap1 : ∀ b, (Value.slice Al n cl).ownBlock = some b → b ≠ gm ∧ b ≠ gt := fun b hb => hor _ b hb ap.1 ap.2.1
          have hap2 : ∀ b, (Value.slice Ab s.bd.length cb).ownBlock = some b → b ≠ gm ∧ b ≠ gt := fun b hb => hor _ b hb (by rcases ap.2.2.2.2.1 with e | e; simp [Value.ownBlock] at e; exact .inr fun h => e (by rw [h]; rfl)) (by rcases ap.2.2.2.2.2 with e | e; simp [Value.ownBlock] at e; exact .inr fun h => e (by rw [h]; rfl))
          have q0 : FO wr W1.heap.size 72 3 (.slice Al n cl) n (idF s.lv) := hV.out.fo (HU5.out.fo o0.o fun b hb => ⟨by have := o0.b b hb; omega, (hap1 b hb).1⟩) fun b hb => ⟨(hap1 b hb).2, (hap1 b hb).2⟩
          have q3 : FO wr W1.heap.size 3 1 (.slice Ab s.bd.length cb) s.bd.length s.bd := hV.out.fo (HU5.out.fo o3.o fun b hb => ⟨by have := o3.b b hb; omega, (hap2 b hb).1⟩) fun b hb => ⟨(hap2 b hb).2, (hap2 b hb).2⟩
          have q1 : OI wr W1.heap.size (.slice (some ⟨gm, 0, none⟩) n cm) n (rowOf n (stM s t)) := hV.out.oi HM5.out (fun b hb => by have e : gm = b := (by simpa [Value.ownBlock] using hb); constructor <;> omega)
          have q2 : OI wr W1.heap.size (.slice (some ⟨gt, 0, none⟩) n ct) n (rowOf n (stT s t)) := by
            rw [rowOf_congr (fun j hj => (stT_dlt (s := s) t j (by rw [HN.out]; exact hj)))]
            rw [HN.out]
            exact hT.out
          have hS6 : StO wr W1.heap.size P (.agg #[.int .i64 s.ro, .slice Al n cl, .slice (some ⟨gm, 0, none⟩) n cm, .slice (some ⟨gt, 0, none⟩) n ct, .slice Ab s.bd.length cb]) (stepS s t) := by
            have hl2 := stepS_len s t
            rw [HN.out] at hl2
            refine ⟨_, _, _, _, rfl, ⟨by show FO wr _ _ _ _ s.lv.length _; rw [HN.out]; exact q0, o0.b⟩, ⟨⟨?_⟩, o1.b⟩, ⟨⟨?_⟩, o2.b⟩, ⟨q3, o3.b⟩, ap⟩
            · rw [hl2.1, show (stepS s t).ms = rowOf n (stM s t) by rw [← HN.out]; rfl]; exact q1.out
            · rw [hl2.2, show (stepS s t).ts = rowOf n (stT s t) by rw [← HN.out]; rfl]; exact q2.out
          have hR6 := hV.out.blk (HU5.out.blk HR4.out (by omega) (by omega)) (by omega) (by omega)
          have hB6 := HB.out
          have hP6 : P + 1 ≤ wr.heap.size := by have := hV.out.size; omega
          have HS6 := hid hS6
          clear hkn hor o0 o1 o2 o3 ap hap1 hap2 q0 q1 q2 q3 hS6 hV hT hF HB hbB p3 HO4
          generalize wr = w6 at *
          have p0 := (blk_cell hbP 0).trans (show _ = some (Value.int .i64 s.ro) from rfl)
          have s0 := (blk_cell hR6 0).trans (show _ = some (Value.int .i64 0) from rfl)
          have f0 := blk_frozen hR6 0
          have p1 := (blk_cell hbP 1).trans (show _ = some (Value.slice Al n cl) from rfl)
          have s1 := (blk_cell hR6 1).trans (show _ = some (Value.slice none 0 0) from rfl)
          have f1 := blk_frozen hR6 1
          have p2 := (blk_cell hbP 2).trans (show _ = some (Value.slice (some ⟨gm, 0, none⟩) n cm) from rfl)
          have s2 := (blk_cell hR6 2).trans (show _ = some (Value.slice none 0 0) from rfl)
          have f2 := blk_frozen hR6 2
          have p3 := (blk_cell hbP 3).trans (show _ = some (Value.slice (some ⟨gt, 0, none⟩) n ct) from rfl)
          have s3 := (blk_cell hR6 3).trans (show _ = some (Value.slice none 0 0) from rfl)
          have f3 := blk_frozen hR6 3
          have p4 := (blk_cell hbP 4).trans (show _ = some (Value.slice Ab s.bd.length cb) from rfl)
          have s4 := (blk_cell hR6 4).trans (show _ = some (Value.slice none 0 0) from rfl)
          have f4 := blk_frozen hR6 4
          have hwi : Wi w6 (((((w6.setCell ⟨w.heap.size + 1, 0, none⟩ (.int .i64 s.ro)).setCell ⟨w.heap.size + 1, 1, none⟩ (.slice Al n cl)).setCell ⟨w.heap.size + 1, 2, none⟩ (.slice (some ⟨gm, 0, none⟩) n cm)).setCell ⟨w.heap.size + 1, 3, none⟩ (.slice (some ⟨gt, 0, none⟩) n ct)).setCell ⟨w.heap.size + 1, 4, none⟩ (.slice Ab s.bd.length cb)) (w.heap.size + 1) (w.heap.size + 1 + 1) := (((((Wi.refl _ _ _).trans (Wi.set _ _ 0 (.int .i64 s.ro))).trans (Wi.set _ _ 1 (.slice Al n cl))).trans (Wi.set _ _ 2 (.slice (some ⟨gm, 0, none⟩) n cm))).trans (Wi.set _ _ 3 (.slice (some ⟨gt, 0, none⟩) n ct))).trans (Wi.set _ _ 4 (.slice Ab s.bd.length cb))
          have HFF := hid (show (((((w6.setCell ⟨w.heap.size + 1, 0, none⟩ (.int .i64 s.ro)).setCell ⟨w.heap.size + 1, 1, none⟩ (.slice Al n cl)).setCell ⟨w.heap.size + 1, 2, none⟩ (.slice (some ⟨gm, 0, none⟩) n cm)).setCell ⟨w.heap.size + 1, 3, none⟩ (.slice (some ⟨gt, 0, none⟩) n ct)).setCell ⟨w.heap.size + 1, 4, none⟩ (.slice Ab s.bd.length cb)).heap[w.heap.size + 1]? = some (.cells #[.int .i64 s.ro, .slice Al n cl, .slice (some ⟨gm, 0, none⟩) n cm, .slice (some ⟨gt, 0, none⟩) n ct, .slice Ab s.bd.length cb] 29 (0, 0)) from (blk_set (blk_set (blk_set (blk_set (blk_set hR6 0 (.int .i64 s.ro)) 1 (.slice Al n cl)) 2 (.slice (some ⟨gm, 0, none⟩) n cm)) 3 (.slice (some ⟨gt, 0, none⟩) n ct)) 4 (.slice Ab s.bd.length cb)))
          have HST := hid (StO_mono (HS6.out.wi hwi (Or.inr (by omega))) (show w.heap.size ≤ W1.heap.size by omega) (show P ≤ (((((w6.setCell ⟨w.heap.size + 1, 0, none⟩ (.int .i64 s.ro)).setCell ⟨w.heap.size + 1, 1, none⟩ (.slice Al n cl)).setCell ⟨w.heap.size + 1, 2, none⟩ (.slice (some ⟨gm, 0, none⟩) n cm)).setCell ⟨w.heap.size + 1, 3, none⟩ (.slice (some ⟨gt, 0, none⟩) n ct)).setCell ⟨w.heap.size + 1, 4, none⟩ (.slice Ab s.bd.length cb)).heap.size by have := hwi.size; omega))
          have HBF := hid (hB6.then_wi hwi (by omega))
          clear hbP hR6 hB6 hwi
          go_wp2
          refine bodyPost_ret (results_cell_row rfl _ _ (w.heap.size + 1) 29 #[.int .i64 s.ro, .slice Al n cl, .slice (some ⟨gm, 0, none⟩) n cm, .slice (some ⟨gt, 0, none⟩) n ct, .slice Ab s.bd.length cb] (0, 0) _ rfl HFF.out Try.underlying29 rfl (by kernel_rfl)) rfl ?_
          exact ⟨_, rfl, HST.out, HBF.out⟩
end Go.Proofs.Ytkendhkaheoinaa.U
