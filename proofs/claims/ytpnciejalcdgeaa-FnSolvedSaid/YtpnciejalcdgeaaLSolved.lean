
/- The law FnSolved returns true at all codes. -/
import Derived.Test.YtpnciejalcdgeaaDm
import Derived.Test.YtpnciejalcdgeaaSv
import Derived.Test.YtpnciejalcdgeaaSi
set_option linter.unusedVariables false
set_option linter.unusedSimpArgs false
namespace Go.Proofs.Ytpnciejalcdgeaa.U
open Go.RowKit Go.Lib Go.Proofs.YtpnciejalcdgeaaW.PrintWords

open Go.Proofs.YtpnciejalcdgeaaW.PrintLast Go.Proofs.YtpnciejalcdgeaaW.PrintMore
theorem most0 (n m : Nat) : absMost (List.replicate n 0) m = 0 := by
  induction m with
  | zero => rfl
  | succ m ih =>
    have e : rd (List.replicate n 0) (m : Int) = 0 := by
      rw [rd_nat, List.getD_eq_getElem?_getD, List.getElem?_replicate]
      split <;> rfl
    rw [absMost, ih, e, bigMax_max, bigMax_max]; omega
theorem rep_rd (n : Nat) (y : Int) (j : Nat) (h : j < n) : rd (List.replicate n y) (j : Int) = y := by
  rw [rd_nat, List.getD_eq_getElem?_getD, List.getElem?_replicate, if_pos h]
  rfl
theorem res_const (n : Nat) (y k : Int) : resTo (List.replicate n y) (List.replicate n y) k n n = List.replicate n 0 := by
  apply List.ext_getElem
  · rw [resTo_length, List.length_replicate]
  · intro j h1 h2
    rw [resTo_length] at h1
    have := resTo_rd (List.replicate n y) (List.replicate n y) k n n j h1
    rw [rd_nat, List.getD_eq_getElem?_getD, List.getElem?_eq_getElem (by rw [resTo_length]; exact h1), Option.getD_some] at this
    rw [this, List.getElem_replicate, resAt, rep_rd n y j h1]
    have e : leftOf (List.replicate n y) j + rightOf (List.replicate n y) n j = nearCnt n j * y := by
      unfold leftOf rightOf nearCnt
      by_cases h3 : 0 < j <;> by_cases h4 : j + 1 < n
      · rw [if_pos h3, if_pos h4, if_pos h3, if_pos h4, rep_rd n y _ (by omega), rep_rd n y _ h4]; omega
      · rw [if_pos h3, if_neg h4, if_pos h3, if_neg h4, rep_rd n y _ (by omega)]; omega
      · rw [if_neg h3, if_pos h4, if_neg h3, if_pos h4, rep_rd n y _ h4]; omega
      · rw [if_neg h3, if_neg h4, if_neg h3, if_neg h4]; omega
    rw [e, Int.add_mul, Int.one_mul, Int.mul_assoc]
    omega
theorem sum_rep (n : Nat) (y : Int) : (List.replicate n y).sum = n * y := by
  induction n with
  | zero => simp
  | succ n ih => rw [List.replicate_succ, List.sum_cons, ih]; push_cast; rw [Int.add_mul]; omega
theorem unk_rep (n : Nat) (y : Int) (hn : 1 ≤ n ∧ n ≤ 16) (hy : -5000 ≤ y ∧ y ≤ 5000) : unkOk (List.replicate n y) 1000000000 = true := unkOk_iff.2 ⟨by rw [List.length_replicate]; omega, fun x hx => by rw [(List.mem_replicate.1 hx).2]; omega⟩
theorem const_rep (n : Nat) (y : Int) (hn : 1 ≤ n ∧ n ≤ 16) (hy : -5000 ≤ y ∧ y ≤ 5000) : constPart (List.replicate n y) = y := by
  rw [constPart, if_pos (unk_rep n y hn hy), sum_rep, List.length_replicate, Int.mul_comm, Int.mul_ediv_cancel _ (by omega)]
theorem solve_const (n : Nat) (y k : Int) (hn : 1 ≤ n ∧ n ≤ 16) (hy : -5000 ≤ y ∧ y ≤ 5000) (hk : 0 ≤ k ∧ k ≤ 1000) : solveL (List.replicate n y) k 0 0 = (List.replicate n y, 0) := by
  have h1 := unk_rep n y hn hy
  have hs : sysOk (List.replicate n y) (List.replicate n y) k = true := by
    simp only [sysOk, Bool.and_eq_true, decide_eq_true_eq]
    exact ⟨⟨⟨trivial, h1⟩, h1⟩, inR_iff.2 hk⟩
  have hm : inR 0 0 100 = true := rfl
  rw [solveL, if_pos (by rw [hs, hm]; rfl), const_rep n y hn hy, List.length_replicate]
  simp only [Int.toNat_zero, solveU]
  rw [res_const, most0]
theorem solve_first (f : List Int) (k b : Int) (m : Nat) (hl : f.length = m) (hm : 1 ≤ m ∧ m ≤ 16) (hf : Bd f 15000) (hk : 0 ≤ k ∧ k ≤ 1000) : ∃ U E, solveL f k b 4 = (U, E) ∧ U.length = m ∧ Bd U 1000000000 ∧ absMost (resTo U f k m m) m = E := by
  have hs : sysOk f f k = true := by
    simp only [sysOk, Bool.and_eq_true, decide_eq_true_eq]
    exact ⟨⟨⟨trivial, unkOk_iff.2 ⟨by omega, (hf.mono (by omega)).mem⟩⟩, unkOk_iff.2 ⟨by omega, (hf.mono (by omega)).mem⟩⟩, inR_iff.2 hk⟩
  have hu : unkOk f 1000000000 = true := unkOk_iff.2 ⟨by omega, (hf.mono (by omega)).mem⟩
  have h4 : inR 4 0 100 = true := rfl
  have hg := solveU_good f k f.length b rfl (hf.mono (by omega)) hk.1 4 (List.replicate f.length (constPart f)) (by simp) (rep_bd _ _ _ (const_bd f hu))
  rw [hl] at hg
  refine ⟨_, _, by rw [solveL, if_pos (by rw [hs, h4]; rfl), hl]; rfl, hg.1, hg.2, rfl⟩
theorem calls_and {P : Program} {f : FuncId} {args : Array Value} {w0 w : World} {Q : Ending → Prop} (h : Calls P f args w fun e w' => Q e ∧ Bw w w') (hB : Bw w0 w) : Calls P f args w fun e w' => Q e ∧ Bw w w' ∧ Bw w0 w' := h.mono fun _ _ k => ⟨k.1, k.2, hB.trans k.2⟩
set_option maxHeartbeats 8000000 in
set_option maxRecDepth 100000 in
theorem law_Solved (A : Option Addr) (n c : Nat) (l : List Int) (w : World) (r : ReadsInt w .u8 A n l) (wf : ∀ x ∈ l, 0 ≤ x ∧ x ≤ 255) :
    Calls Try.prog 4 #[.slice A n c] w fun e w' => e = .returned (.bool true) ∧ Bw w w' := by
  have WF := hid wf
  clear wf
  by_cases hb : n ≤ 1048576
  · have t1 : decide (1048576 < (n : Int)) = false := decide_eq_false (by omega)
    have T1 := hid t1
    clear t1
    go_enter Try.func4, Try.ntmps4
    go_wp2_with fail
    refine (toBool (lawbig _ _ _ _) T1.out).mono ?_
    rintro e w1 ⟨rfl, rfl⟩
    go_wp2_with fail
    refine (DrawSystem A n c l _ r WF.out hb).mono ?_
    rintro e w1 ⟨B, C, b, d, m, u, f, k, rfl, hu, hf, ha, hub, hfb, hm, hk, b1⟩
    have HFL := hid hf.len
    have rf := hf.ri
    clear ha hu hf hub
    go_wp2_with fail
    refine (DrawPlaces A n c l _ (r.below b1.out) WF.out hb).mono ?_
    rintro e w2 ⟨Ap, np, cp, ps, rfl, op, ⟨rfl, hps⟩, b2⟩
    replace rf := rf.to b2
    replace b1 := b1.trans b2
    have rp := op.ri
    have hpl := op.len
    obtain ⟨ap, rfl, hp0⟩ := rp.nat 0 (by omega)
    obtain ⟨_, ea, hp1⟩ := rp.nat 1 (by omega)
    obtain rfl := Option.some.inj ea
    have hq0 : 0 ≤ rd ps ((0 : Nat) : Int) ∧ rd ps ((0 : Nat) : Int) < 10000 := hps _ (by rw [rd_nat, List.getD_eq_getElem?_getD, List.getElem?_eq_getElem (by omega)]; exact List.getElem_mem _)
    have hq1 : 0 ≤ rd ps ((1 : Nat) : Int) ∧ rd ps ((1 : Nat) : Int) < 10000 := hps _ (by rw [rd_nat, List.getD_eq_getElem?_getD, List.getElem?_eq_getElem (by omega)]; exact List.getElem_mem _)
    rw [add_pos ap 1 (by omega)] at hp1
    rw [show ap.add 0 = ap by simp [Addr.add]] at hp0
    generalize rd ps ((0 : Nat) : Int) = p0 at *
    generalize rd ps ((1 : Nat) : Int) = p1 at *
    clear b2 op ea hps hpl rp
    obtain ⟨U, E, hsol, hUl, hUb, hE⟩ := solve_first f k (p0 % 500) m HFL.out hm hfb hk
    have HSOL := hid hsol
    have HUL := hid hUl
    have HE := hid hE
    have HFB := hid hfb
    obtain ⟨y, hy⟩ : ∃ y, p1 - 5000 = y := ⟨_, rfl⟩
    have HY := hid hy
    have hyb : -5000 ≤ y ∧ y ≤ 5000 := by omega
    have HS2 := hid (solve_const m y k hm hyb hk)
    have HCP := hid (const_rep m y hm hyb)
    clear hsol hUl hE hfb hy
    go_wp2_with fail
    refine (impl_SolveTo C m d f k (p0 % 500) 4 _ rf).mono ?_
    rintro e w3 ⟨v, rfl, o, b3⟩
    rw [HSOL.out] at o ⊢
    simp only [HUL.out] at o
    replace rf := rf.to b3
    replace hp1 := pw_cell_below b3.out hp1
    replace b1 := b1.trans b3
    obtain ⟨Au, cu, rfl, ru⟩ := o.reads
    clear b3 o hp0
    have e1 : ((m : Int) != (m : Int)) = false := by simp
    have e2 : (E != E) = false := by simp
    go_wp2_with fail
    refine (spec_errOk Au m cu U C d f k _ ru rf ⟨hm.1, by omega⟩ hUb (HFB.out.mono (by omega)) hk).mono ?_
    rintro e w4 ⟨rfl, b4⟩
    rw [HE.out]
    replace hp1 := pw_cell_below b4.out hp1
    replace b1 := b1.trans b4
    clear b4 ru rf
    have o0 := OI.lit0 w4 w4.heap.size (Nat.le_refl _)
    have b0 : Bw w4 (w4.alloc (.cells #[] 3)) := (Bw.refl w4).alloc _
    have BB := hid b1
    go_wp2
    go_loopw [9, 10] (fun v i wr => ∃ j : Nat, j ≤ m ∧ i = .int .i64 j ∧ OI wr w4.heap.size v j (List.replicate j y) ∧ Bw w4 wr) (fun _ i _ => m - (intOf i).toNat)
    case atStart => exact ⟨0, by omega, rfl, o0, b0⟩
    case round =>
      obtain ⟨j, hj, rfl, hO, hB⟩ := hrel
      obtain ⟨Ag, cg, rfl, _⟩ := hO.reads
      have HREP := hid (show List.replicate j y ++ [y] = List.replicate (j + 1) y by rw [List.replicate_succ'])
      have HRL := hid (show (List.replicate j y).length = j from List.length_replicate)
      replace hp1 := pw_cell_below hB.out hp1
      by_cases hlt : j < m
      · have t1 : decide ((j : Int) < (m : Int)) = true := decide_eq_true (by omega)
        generalize List.replicate j y = L at *
        go_wp2_with (at_builtin; refine print_append_num (w0 := w4) w4.heap.size rfl _ _ 24 3 .i64 8 rfl Try.underlying24 info_int (by omega) (.slice Ag j cg) L (p1 - 5000) rfl rfl (by rw [HRL.out]; exact hO.out) hB.out hB.size (by have := HRL.out; omega) ?_; intro v1 w3 hown1 hB1 hg1 hat1)
        rw [HY.out] at hown1
        go_roundw
        case rel => exact ⟨j + 1, by omega, by go_num, by have h := OI.app hown1; rw [HREP.out, List.length_replicate] at h; exact h, ⟨hB1⟩⟩
        case measure => simp [intOf]; omega
      · obtain rfl : j = m := by omega
        have t1 : decide ((j : Int) < (j : Int)) = false := decide_eq_false (by omega)
        obtain ⟨G, hG⟩ : ∃ G, List.replicate j y = G := ⟨_, rfl⟩
        rw [hG] at HS2 HCP HRL hO
        clear HREP hG
        obtain ⟨gg, rfl, _, _⟩ := hO.form (by omega)
        have rg := hO.ri
        replace b1 := BB.out.trans hB
        clear hO hB o0 b0
        go_wp2_with fail
        refine (impl_SolveTo _ j cg G k 0 0 _ rg).mono ?_
        rintro e w5 ⟨v, rfl, o, b5⟩
        rw [HS2.out] at o ⊢
        simp only [HRL.out] at o
        replace rg := rg.to b5
        replace hp1 := pw_cell_below b5.out hp1
        replace b1 := b1.trans b5
        obtain ⟨V, cv, rfl, rv⟩ := o.reads
        clear b5 o
        have hB := hid b1
        have e5 : IntKind.i64.wrap (p1 - 5000) = p1 - 5000 := i64w (by omega) (by omega)
        have e6 : ((0 : Int) == 0) = true := rfl
        have HQ := hid (And.intro hyb (And.intro hq0 hq1))
        go_wp2
        refine start_ (n := 17) (S := fun w' => w'.cell? ⟨ap.block, ap.off + 1, none⟩ = some (.int .i64 p1) ∧ RI w' V j G ∧ RI w' (some ⟨gg, 0, none⟩) j G) (ds := []) #[false, false, false, false, false, false, false, false, false, false, false, false, false, false, false, false, false] (by kernel_rfl) rfl rfl ⟨pw_cell_below (Drawn0.below ⟨⟨1, rfl⟩⟩) hp1, rv.dr ⟨⟨1, rfl⟩⟩, rg.dr ⟨⟨1, rfl⟩⟩⟩ (fun hHeld => ?_)
        refine pure_ (i := 0) (N := (some 66)) (v := ?_) (a' := ?_) #[true, false, false, false, false, false, false, false, false, false, false, false, false, false, false, false, false] rfl rfl (by kernel_rfl) (fun _ _ _ h => h) (Or.inl ⟨by rfl, ?_⟩) ?_ ?_
        rotate_left
        · intro w'
          go_simp
          with_reducible rfl
        rotate_left
        · simp only [Act.put, List.setIfInBounds_toArray, List.set_cons_zero, List.set_cons_succ, i64_w, i32_w]
          rfl
        refine pure_ (i := 1) (N := (some 67)) (v := ?_) (a' := ?_) #[true, true, false, false, false, false, false, false, false, false, false, false, false, false, false, false, false] rfl rfl (by kernel_rfl) (fun _ _ _ h => h) (Or.inl ⟨by rfl, ?_⟩) ?_ ?_
        rotate_left
        · intro w'
          go_simp
          with_reducible rfl
        rotate_left
        · simp only [Act.put, List.setIfInBounds_toArray, List.set_cons_zero, List.set_cons_succ, i64_w, i32_w]
          rfl
        refine pure_ (i := 2) (N := (some 68)) (v := ?_) (a' := ?_) #[true, true, true, false, false, false, false, false, false, false, false, false, false, false, false, false, false] rfl rfl (by kernel_rfl) (fun _ _ _ h => h) (Or.inl ⟨by rfl, ?_⟩) ?_ ?_
        rotate_left
        · intro w'
          go_simp
          with_reducible rfl
        rotate_left
        · simp only [Act.put, List.setIfInBounds_toArray, List.set_cons_zero, List.set_cons_succ, i64_w, i32_w]
          rfl
        refine pure_ (i := 3) (N := (some 69)) (v := ?_) (a' := ?_) #[true, true, true, true, false, false, false, false, false, false, false, false, false, false, false, false, false] rfl rfl (by kernel_rfl) (fun _ _ _ h => h) (Or.inl ⟨by rfl, ?_⟩) ?_ ?_
        rotate_left
        · intro w'
          go_simp
          with_reducible rfl
        rotate_left
        · simp only [Act.put, List.setIfInBounds_toArray, List.set_cons_zero, List.set_cons_succ, i64_w, i32_w]
          rfl
        refine pure_ (i := 4) (N := (some 70)) (v := ?_) (a' := ?_) #[true, true, true, true, true, false, false, false, false, false, false, false, false, false, false, false, false] rfl rfl (by kernel_rfl) (fun _ _ _ h => h) (Or.inl ⟨by rfl, ?_⟩) ?_ ?_
        rotate_left
        · intro w'
          go_simp
          with_reducible rfl
        rotate_left
        · simp only [Act.put, List.setIfInBounds_toArray, List.set_cons_zero, List.set_cons_succ, i64_w, i32_w]
          rfl
        refine one_ (i := 5) (N := (some 71)) #[true, true, true, true, true, true, false, false, false, false, false, false, false, false, false, false, false] rfl rfl (by kernel_rfl) (by decide) (fun K hK => ?_)
        refine goes_ Try.func11 (by kernel_rfl) rfl #[.slice V j cv, .slice (some ⟨gg, 0, none⟩) j cg] (by rfl) rfl rfl (by (try simp only [List.map_toArray, List.map_cons, List.map_nil]); first | done | rfl) ?_
        refine (sameInts_yes _ j _ _ _ _ _ hHeld.2.1 hHeld.2.2).mono ?_
        rintro e w' ⟨rfl, d⟩
        refine ⟨_, rfl, ?_⟩
        refine hK.out _ _ ⟨pw_cell_below d.below hHeld.1, hHeld.2.1.dr d, hHeld.2.2.dr d⟩ (fun hHeld => ?_)
        clear hK K
        refine norm_ (a' := ?_) ?_ ?_
        rotate_left
        · show Act.put _ (some 71) _ = _
          simp only [Act.put, List.setIfInBounds_toArray, List.set_cons_zero, List.set_cons_succ, i64_w, i32_w]
          rfl
        refine pure_ (i := 6) (N := (some 72)) (v := ?_) (a' := ?_) #[true, true, true, true, true, true, true, false, false, false, false, false, false, false, false, false, false] rfl rfl (by kernel_rfl) (fun _ _ _ h => h) (Or.inl ⟨by rfl, ?_⟩) ?_ ?_
        rotate_left
        · intro w'
          go_simp
          with_reducible rfl
        rotate_left
        · simp only [Act.put, List.setIfInBounds_toArray, List.set_cons_zero, List.set_cons_succ, i64_w, i32_w]
          rfl
        refine pure_ (i := 7) (N := (some 73)) (v := ?_) (a' := ?_) #[true, true, true, true, true, true, true, true, false, false, false, false, false, false, false, false, false] rfl rfl (by kernel_rfl) (fun _ _ _ h => h) (Or.inl ⟨by rfl, ?_⟩) ?_ ?_
        rotate_left
        · intro w'
          go_simp
          with_reducible rfl
        rotate_left
        · simp only [Act.put, List.setIfInBounds_toArray, List.set_cons_zero, List.set_cons_succ, i64_w, i32_w]
          rfl
        refine pure_ (i := 8) (N := (some 74)) (v := ?_) (a' := ?_) #[true, true, true, true, true, true, true, true, true, false, false, false, false, false, false, false, false] rfl rfl (by kernel_rfl) (fun _ _ _ h => h) (Or.inl ⟨by rfl, ?_⟩) ?_ ?_
        rotate_left
        · intro w'
          go_simp
          with_reducible rfl
        rotate_left
        · simp only [Act.put, List.setIfInBounds_toArray, List.set_cons_zero, List.set_cons_succ, i64_w, i32_w]
          rfl
        refine pure_ (i := 10) (N := (some 76)) (v := ?_) (a' := ?_) #[true, true, true, true, true, true, true, true, true, false, true, false, false, false, false, false, false] rfl rfl (by kernel_rfl) (fun _ _ _ h => h) (Or.inl ⟨by rfl, ?_⟩) ?_ ?_
        rotate_left
        · intro w'
          go_simp
          with_reducible rfl
        rotate_left
        · simp only [Act.put, List.setIfInBounds_toArray, List.set_cons_zero, List.set_cons_succ, i64_w, i32_w]
          rfl
        refine pure_ (i := 11) (N := (some 77)) (v := ?_) (a' := ?_) #[true, true, true, true, true, true, true, true, true, false, true, true, false, false, false, false, false] rfl rfl (by kernel_rfl) (fun _ _ _ h => h) (Or.inl ⟨by rfl, ?_⟩) ?_ ?_
        rotate_left
        · intro w'
          go_simp
          with_reducible rfl
        rotate_left
        · simp only [Act.put, List.setIfInBounds_toArray, List.set_cons_zero, List.set_cons_succ, i64_w, i32_w]
          rfl
        refine take_ (i := 12) (N := (some 78)) (v := ?_) (a' := ?_) #[true, true, true, true, true, true, true, true, true, false, true, true, true, false, false, false, false] rfl rfl (by kernel_rfl) (fun _ _ _ h => h) (Or.inl ⟨by rfl, ?_⟩) hHeld ?_ ?_
        rotate_left
        · rintro w' ⟨s0, s1, s2⟩
          go_simp
          with_reducible rfl
        rotate_left
        · simp only [Act.put, List.setIfInBounds_toArray, List.set_cons_zero, List.set_cons_succ, i64_w, i32_w]
          rfl
        refine pure_ (i := 13) (N := (some 79)) (v := ?_) (a' := ?_) #[true, true, true, true, true, true, true, true, true, false, true, true, true, true, false, false, false] rfl rfl (by kernel_rfl) (fun _ _ _ h => h) (Or.inl ⟨by rfl, ?_⟩) ?_ ?_
        rotate_left
        · intro w'
          go_simp
          with_reducible rfl
        rotate_left
        · simp only [Act.put, List.setIfInBounds_toArray, List.set_cons_zero, List.set_cons_succ, i64_w, i32_w]
          rfl
        refine one_ (i := 9) (N := (some 75)) #[true, true, true, true, true, true, true, true, true, true, true, true, true, true, false, false, false] rfl rfl (by kernel_rfl) (by decide) (fun K hK => ?_)
        refine goes_ Try.func16 (by kernel_rfl) rfl #[.slice (some ⟨gg, 0, none⟩) j cg] (by rfl) rfl rfl (by (try simp only [List.map_toArray, List.map_cons, List.map_nil]); first | done | rfl) ?_
        refine (calls_and (impl_ConstantPart _ j _ _ _ hHeld.2.2) (hB.out.trans ((Bw.drawn ⟨⟨1, rfl⟩⟩).trans (Bw.drawn d)))).mono ?_
        rintro e w' ⟨rfl, b, hB2⟩
        refine ⟨_, rfl, ?_⟩
        refine hK.out _ _ ⟨pw_cell_below b.out hHeld.1, hHeld.2.1.to b, hHeld.2.2.to b⟩ (fun hHeld => ?_)
        clear hK K
        refine norm_ (a' := ?_) ?_ ?_
        rotate_left
        · show Act.put _ (some 75) _ = _
          simp only [Act.put, List.setIfInBounds_toArray, List.set_cons_zero, List.set_cons_succ, i64_w, i32_w]
          rfl
        refine pure_ (i := 14) (N := (some 80)) (v := ?_) (a' := ?_) #[true, true, true, true, true, true, true, true, true, true, true, true, true, true, true, false, false] rfl rfl (by kernel_rfl) (fun _ _ _ h => h) (Or.inl ⟨by rfl, ?_⟩) ?_ ?_
        rotate_left
        · intro w'
          go_simp
          with_reducible rfl
        rotate_left
        · simp only [Act.put, List.setIfInBounds_toArray, List.set_cons_zero, List.set_cons_succ, i64_w, i32_w]
          rfl
        refine pure_ (i := 15) (N := (some 81)) (v := ?_) (a' := ?_) #[true, true, true, true, true, true, true, true, true, true, true, true, true, true, true, true, false] rfl rfl (by kernel_rfl) (fun _ _ _ h => h) (Or.inl ⟨by rfl, ?_⟩) ?_ ?_
        rotate_left
        · intro w'
          go_simp
          with_reducible rfl
        rotate_left
        · simp only [Act.put, List.setIfInBounds_toArray, List.set_cons_zero, List.set_cons_succ, i64_w, i32_w]
          rfl
        refine pure_ (i := 16) (N := (some 2)) (v := ?_) (a' := ?_) #[true, true, true, true, true, true, true, true, true, true, true, true, true, true, true, true, true] rfl rfl (by kernel_rfl) (fun _ _ _ h => h) (Or.inl ⟨by rfl, ?_⟩) ?_ ?_
        rotate_left
        · intro w'
          go_simp
          with_reducible rfl
        rotate_left
        · simp only [Act.put, List.setIfInBounds_toArray, List.set_cons_zero, List.set_cons_succ, i64_w, i32_w]
          rfl
        refine done_ (by kernel_rfl) ?_
        clear e1 e2 e5 e6
        go_wp2
        go_ret
        exact ⟨ret_bool (show (constPart G == p1 - 5000) = true by rw [HCP.out, HY.out]; simp), hB2⟩
  · have t1 : decide (1048576 < (n : Int)) = true := decide_eq_true (by omega)
    have T1 := hid t1
    clear t1
    go_enter Try.func4, Try.ntmps4
    go_wp2_with fail
    refine (toBool (lawbig _ _ _ _) T1.out).mono ?_
    rintro e w1 ⟨rfl, rfl⟩
    go_wp2
    go_ret
    exact ⟨rfl, Bw.refl _⟩
end Go.Proofs.Ytpnciejalcdgeaa.U
