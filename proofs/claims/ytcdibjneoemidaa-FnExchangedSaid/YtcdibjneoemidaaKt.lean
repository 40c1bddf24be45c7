
/- Exchange of the reference. -/
import Derived.Test.YtcdibjneoemidaaKs
import Derived.Test.YtcdibjneoemidaaKr
set_option linter.unusedVariables false
set_option linter.unusedSimpArgs false
namespace Go.Proofs.Ytcdibjneoemidaa.U
open Go.RowKit Go.Lib Go.Proofs.YtcdibjneoemidaaW.PrintWords

open Go.Proofs.YtcdibjneoemidaaW.PrintLast Go.Proofs.YtcdibjneoemidaaW.PrintMore
theorem sent_succ (vs sc : List Int) (j k : Nat) (h : rd sc (j : Int) = (k : Int)) : sentS vs sc (j + 1) = sendN vs (sentS vs sc j) k := by
  rw [sentS, h, Int.toNat_natCast]
theorem send_yes {vs : List Int} {s : Ib} {k q : Nat} (h1 : k % 2 = 0) (h2 : k / 2 = q) (hq : q < vs.length) : sendN vs s k = delS s ⟨(q : Int), rd vs (q : Int)⟩ := by
  subst h2
  rw [sendN, if_pos ⟨h1, hq⟩]
theorem send_no {vs : List Int} {s : Ib} {k : Nat} (h : ¬ (k % 2 = 0 ∧ k / 2 < vs.length)) : sendN vs s k = s := by rw [sendN, if_neg h]
theorem FO.ri' {w : World} {base n c : Nat} {A : Option Addr} {F : List Int} (h : FO w base 3 1 (.slice A n c) n F) : RI w A n F := by
  obtain ⟨B, d, e, _, f⟩ := h.reads
  cases e
  exact f.ri

set_option maxHeartbeats 8000000 in
set_option maxRecDepth 100000 in
theorem spec_Exchange (A : Option Addr) (n c : Nat) (l : List Int) (Bs : Option Addr) (m ds : Nat) (sc : List Int) (w : World) (r : RI w A n l) (q : RI w Bs m sc) (hwf : ∀ x ∈ sc, -9223372036854775808 ≤ x ∧ x ≤ 9223372036854775807) :
    Calls Try.prog 22 #[.slice A n c, .slice Bs m ds] w fun e w' => ∃ v, e = .returned (.tuple #[v, .int .i64 (exS l sc).2]) ∧ OI w' w.heap.size v (exS l sc).1.length (exS l sc).1 ∧ Bw w w' := by
  have HLN := hid r.len
  have HSN := hid q.len
  have HWF := hid hwf
  clear hwf
  by_cases h1 : n ≤ 100
  case neg =>
    have t1 : decide ((n : Int) > 100) = true := decide_eq_true (by omega)
    have t1' : decide (n > 100) = true := decide_eq_true (by omega)
    have t1'' : decide (100 < n) = true := decide_eq_true (by omega)
    have hx := exS_no (vs := l) (sc := sc) (by rw [exOk, decide_eq_false (by rw [HLN.out]; omega)]; rfl)
    rw [hx]
    have o0 := hid (OI.lit0 w w.heap.size (Nat.le_refl _))
    clear hx
    go_enter Try.func22, Try.ntmps22
    go_wp2
    go_ret2
    exact ⟨_, rfl, o0.out, Bw.box1 _ _⟩
  have t1 : decide ((n : Int) > 100) = false := decide_eq_false (by omega)
  have t1' : decide (n > 100) = false := decide_eq_false (by omega)
  have t1'' : decide (100 < n) = false := decide_eq_false (by omega)
  by_cases h2 : m ≤ 1000
  case neg =>
    have t2 : decide ((m : Int) > 1000) = true := decide_eq_true (by omega)
    have t2' : decide (m > 1000) = true := decide_eq_true (by omega)
    have t2'' : decide (1000 < m) = true := decide_eq_true (by omega)
    have hx := exS_no (vs := l) (sc := sc) (by rw [exOk, decide_eq_false (show ¬ sc.length ≤ 1000 by rw [HSN.out]; omega), Bool.and_false]; rfl)
    rw [hx]
    have o0 := hid (OI.lit0 w w.heap.size (Nat.le_refl _))
    clear hx
    go_enter Try.func22, Try.ntmps22
    go_wp2
    go_ret2
    exact ⟨_, rfl, o0.out, Bw.box1 _ _⟩
  have t2 : decide ((m : Int) > 1000) = false := decide_eq_false (by omega)
  have t2' : decide (m > 1000) = false := decide_eq_false (by omega)
  have t2'' : decide (1000 < m) = false := decide_eq_false (by omega)
  have HL := hid r
  have HS := hid q
  have HD0 := hid (DlS.zero w)
  clear r q
  go_enter Try.func22, Try.ntmps22
  go_upto_region 4 with fail
  generalize (w.alloc (.cells #[.slice none 0 0, .slice none 0 0] 31)) = W1 at *
  obtain ⟨XB, hXB⟩ : ∃ XB, w.heap.size = XB := ⟨_, rfl⟩
  have HXB := hid hXB
  simp only [hXB] at HD0 ⊢
  clear hXB t1 t1' t1'' t2 t2' t2''
  go_wp2
  go_loopw [7] (fun v7 wr => ∃ (j : Nat) (vg ve : Value) (s : Ib), j ≤ m ∧ v7 = .int .i64 j ∧ Hid (DlS w wr XB vg ve s) ∧ Hid (s = sentS l sc j) ∧ Hid (∀ i, i < j → 0 ≤ rd sc (i : Int))) (fun v7 _ => m - (RowKit.intOf v7).toNat)
  case atStart => exact ⟨0, _, _, _, by omega, rfl, HD0, hid rfl, hid (fun i hi => by omega)⟩
  case round =>
    clear HD0
    obtain ⟨j, vg, ve, s, hj, rfl, HD, HE, HP⟩ := hrel
    have HG := hid (show Good l s by rw [HE.out]; exact good_sent l sc (by rw [HLN.out]; omega) j)
    obtain ⟨Ag, cg, rfl, hgc, hgr⟩ := HD.out.og.reads
    obtain ⟨Be, de, rfl, hec, her⟩ := (show PkO _ _ _ _ _ from HD.out.oe).reads
    have HIB := hid (show IbR wr (.agg #[.slice Ag s.g.length cg, .slice Be s.e.length de]) s from HD.out.ib.r)
    clear hgc hgr hec her
    have HOK := hid (HG.out.ibOk (by rw [HLN.out]; omega))
    have HSL := hid (show s.g.length ≤ 1048576 ∧ s.e.length ≤ 1048576 by have := ibOk_len HOK.out; omega)
    have k0 := (blk_cell HD.out.bx 0).trans (show _ = some (Value.slice Ag s.g.length cg) from rfl)
    have k1 := (blk_cell HD.out.bx 1).trans (show _ = some (Value.slice Be s.e.length de) from rfl)
    by_cases hlt : j < m
    · have t1 : decide ((j : Int) < (m : Int)) = true := decide_eq_true (by omega)
      obtain ⟨asc, rfl, hsj⟩ := (HS.out.to HD.out.bw).nat j hlt
      obtain ⟨x, hx⟩ : ∃ x, rd sc (j : Int) = x := ⟨_, rfl⟩
      rw [hx] at hsj
      have i1 : (0 : Int) ≤ (j : Int) := by omega
      have i2 : (j : Int) < (m : Int) := by omega
      have e1 : IntKind.i64.wrap ((j : Int) + 1) = (j : Int) + 1 := i64w (by omega) (by omega)
      have hkk := hid (show j + 1 ≤ m ∧ m - (j + 1) < m - j by clear e1; omega)
      by_cases hneg : x < 0
      case pos =>
        have t2 : decide (x < 0) = true := decide_eq_true hneg
        have hxs := exS_no (vs := l) (sc := sc) (exOk_at (j := j) (by rw [HSN.out]; exact hlt) (by rw [hx]; exact hneg))
        have HXS := hid hxs
        have o0 := hid (OI.lit0 wr wr.heap.size (Nat.le_refl _))
        have hbz := HD.out.bw.size
        clear hxs hneg hx k0 k1
        go_wp2
        go_ret2
        exact ⟨_, by rw [HXS.out]; rfl, by rw [HXS.out]; exact o0.out.base (by have := HXB.out; omega), HD.out.bw.trans (Bw.box1 _ _)⟩
      have t2 : decide (x < 0) = false := decide_eq_false hneg
      obtain ⟨xn, rfl⟩ := Int.eq_ofNat_of_zero_le (show 0 ≤ x by omega)
      have HPN := hid (show ∀ i, i < j + 1 → 0 ≤ rd sc (i : Int) from fun i hi => by
        by_cases e : i = j
        · subst e; rw [hx]; omega
        · exact HP.out i (by clear e1; omega))
      have HSU := hid (show sentS l sc (j + 1) = sendN l s xn by rw [sent_succ l sc j xn hx, ← HE.out])
      have hx0 : (xn : Int) ≤ 9223372036854775807 := by rw [← hx]; exact (HWF.out _ (rd_mem (by rw [HSN.out]; exact hlt))).2
      clear hneg hx
      go_upto_region 10 with fail
      obtain ⟨qn, hqn⟩ : ∃ qn, xn / 2 = qn := ⟨_, rfl⟩
      have hqi : (xn : Int) / 2 = (qn : Int) := by omega
      rw [hqi]
      clear hqi hx0
      have no : ¬ (xn % 2 = 0 ∧ xn / 2 < l.length) → sentS l sc (j + 1) = s := fun h => by rw [HSU.out, send_no h]
      have NO := hid no
      clear no
      by_cases hpar : xn % 2 = 0
      case neg =>
        have t3 : ((xn : Int) % 2 == 0) = false := by simp; omega
        have t3' : (xn % 2 == 0) = false := by simp; omega
        have HEN := hid (show s = sentS l sc (j + 1) from (NO.out fun h => hpar h.1).symm)
        clear hpar hqn
        go_wp2
        go_roundw
        case rel => exact ⟨j + 1, _, _, _, hkk.out.1, by go_num, HD, HEN, HPN⟩
        case measure => simp [RowKit.intOf]; have := hkk.out; clear e1; omega
      have t3 : ((xn : Int) % 2 == 0) = true := by simp; omega
      have t3' : (xn % 2 == 0) = true := by simp; omega
      by_cases hql : qn < n
      case neg =>
        have t4 : decide ((qn : Int) < (n : Int)) = false := decide_eq_false (by clear e1; omega)
        have t4' : decide (qn < n) = false := decide_eq_false hql
        have HEN := hid (show s = sentS l sc (j + 1) from (NO.out fun h => hql (by have := h.2; have := HLN.out; clear e1; omega)).symm)
        clear hpar hqn hql
        go_wp2
        go_roundw
        case rel => exact ⟨j + 1, _, _, _, hkk.out.1, by go_num, HD, HEN, HPN⟩
        case measure => simp [RowKit.intOf]; have := hkk.out; clear e1; omega
      have t4 : decide ((qn : Int) < (n : Int)) = true := decide_eq_true (by clear e1; omega)
      have t4' : decide (qn < n) = true := decide_eq_true hql
      obtain ⟨al, rfl, hlq⟩ := (HL.out.to HD.out.bw).nat qn hql
      obtain ⟨R, hR⟩ : ∃ R, delS s ⟨(qn : Int), rd l (qn : Int)⟩ = R := ⟨_, rfl⟩
      have HR := hid hR
      have HEN := hid (show R = sentS l sc (j + 1) by rw [HSU.out, send_yes hpar hqn (by rw [HLN.out]; exact hql), hR])
      have j1 : (0 : Int) ≤ (qn : Int) := by clear e1; omega
      have j2 : (qn : Int) < (n : Int) := by clear e1; omega
      clear hR hpar hqn hql
      generalize rd l (qn : Int) = y at *
      go_upto_region 11 with fail
      refine start_ (n := 9) (S := fun w' => w'.cell? ⟨XB, 0, none⟩ = some (.slice Ag s.g.length cg) ∧ w'.cell? ⟨XB, 1, none⟩ = some (.slice Be s.e.length de) ∧ w'.cell? (al.add qn) = some (.int .i64 y)) (ds := [8]) #[false, false, false, false, false, false, false, false, false] (by kernel_rfl) rfl rfl ⟨k0, k1, hlq⟩ (fun hHeld => ?_)
      refine take_ (i := 0) (N := (some 51)) (v := ?_) (a' := ?_) #[true, false, false, false, false, false, false, false, false] rfl rfl (by kernel_rfl) (fun _ _ _ h => h) (Or.inl ⟨by rfl, ?_⟩) hHeld ?_ ?_
      rotate_left
      · rintro w' ⟨s0, s1, s2⟩
        go_simp
        with_reducible rfl
      rotate_left
      · simp only [Act.put, List.setIfInBounds_toArray, List.set_cons_zero, List.set_cons_succ, i64_w, i32_w]
        rfl
      refine pure_ (i := 1) (N := (some 52)) (v := ?_) (a' := ?_) #[true, true, false, false, false, false, false, false, false] rfl rfl (by kernel_rfl) (fun _ _ _ h => h) (Or.inl ⟨by rfl, ?_⟩) ?_ ?_
      rotate_left
      · intro w'
        go_simp
        with_reducible rfl
      rotate_left
      · simp only [Act.put, List.setIfInBounds_toArray, List.set_cons_zero, List.set_cons_succ, i64_w, i32_w]
        rfl
      refine pure_ (i := 2) (N := (some 53)) (v := ?_) (a' := ?_) #[true, true, true, false, false, false, false, false, false] rfl rfl (by kernel_rfl) (fun _ _ _ h => h) (Or.inl ⟨by rfl, ?_⟩) ?_ ?_
      rotate_left
      · intro w'
        go_simp
        with_reducible rfl
      rotate_left
      · simp only [Act.put, List.setIfInBounds_toArray, List.set_cons_zero, List.set_cons_succ, i64_w, i32_w]
        rfl
      refine pure_ (i := 3) (N := (some 54)) (v := ?_) (a' := ?_) #[true, true, true, true, false, false, false, false, false] rfl rfl (by kernel_rfl) (fun _ _ _ h => h) (Or.inl ⟨by rfl, ?_⟩) ?_ ?_
      rotate_left
      · intro w'
        go_simp
        with_reducible rfl
      rotate_left
      · simp only [Act.put, List.setIfInBounds_toArray, List.set_cons_zero, List.set_cons_succ, i64_w, i32_w]
        rfl
      refine pure_ (i := 4) (N := (some 55)) (v := ?_) (a' := ?_) #[true, true, true, true, true, false, false, false, false] rfl rfl (by kernel_rfl) (fun _ _ _ h => h) (Or.inl ⟨by rfl, ?_⟩) ?_ ?_
      rotate_left
      · intro w'
        go_simp
        with_reducible rfl
      rotate_left
      · simp only [Act.put, List.setIfInBounds_toArray, List.set_cons_zero, List.set_cons_succ, i64_w, i32_w]
        rfl
      refine take_ (i := 5) (N := (some 56)) (v := ?_) (a' := ?_) #[true, true, true, true, true, true, false, false, false] rfl rfl (by kernel_rfl) (fun _ _ _ h => h) (Or.inl ⟨by rfl, ?_⟩) hHeld ?_ ?_
      rotate_left
      · rintro w' ⟨s0, s1, s2⟩
        go_simp
        with_reducible rfl
      rotate_left
      · simp only [Act.put, List.setIfInBounds_toArray, List.set_cons_zero, List.set_cons_succ, i64_w, i32_w]
        rfl
      refine pure_ (i := 6) (N := (some 57)) (v := ?_) (a' := ?_) #[true, true, true, true, true, true, true, false, false] rfl rfl (by kernel_rfl) (fun _ _ _ h => h) (Or.inl ⟨by rfl, ?_⟩) ?_ ?_
      rotate_left
      · intro w'
        go_simp
        with_reducible rfl
      rotate_left
      · simp only [Act.put, List.setIfInBounds_toArray, List.set_cons_zero, List.set_cons_succ, i64_w, i32_w]
        rfl
      clear hHeld
      have bD := Bw.drawn (a := wr) ⟨⟨1, rfl⟩⟩
      refine one_ (i := 7) (N := (some 58)) #[true, true, true, true, true, true, true, true, false] rfl rfl (by kernel_rfl) (by decide) (fun K hK => ?_)
      refine goes_ Try.func8 (by kernel_rfl) rfl #[.agg #[.slice Ag s.g.length cg, .slice Be s.e.length de], .agg #[.int .i64 (qn : Int), .int .i64 y]] (by rfl) rfl rfl (by (try simp only [List.map_toArray, List.map_cons, List.map_nil]); first | done | rfl) ?_
      refine (spec_Del _ s (qn : Int) y R _ (HIB.out.to bD) HSL.out HR.out).mono ?_
      rintro e wa ⟨X, yX, U, vU, rfl, oA, ba⟩
      refine ⟨_, rfl, ?_⟩
      have bA := bD.trans ba
      clear ba bD
      refine hK.out _ _ ⟨pw_cell_below bA.out k0, pw_cell_below bA.out k1, pw_cell_below bA.out hlq⟩ (fun _ => ?_)
      clear hK K
      refine norm_ (a' := ?_) ?_ ?_
      rotate_left
      · show Act.put _ (some 58) _ = _
        simp only [Act.put, List.setIfInBounds_toArray, List.set_cons_zero, List.set_cons_succ, i64_w, i32_w]
        rfl
      have HDN := hid (HD.out.next bA oA (show w.heap.size ≤ wr.heap.size from HD.out.bw.size))
      have hbx_ := (bA.out.block _ (blk_lt HD.out.bx)).trans HD.out.bx
      have HBA := hid bA
      have HWX := hid (show Wi wa ((wa.setCell ⟨XB, 0, none⟩ (.slice X R.g.length yX)).setCell ⟨XB, 1, none⟩ (.slice U R.e.length vU)) XB (XB + 1) from ((Wi.refl wa _ _).trans (Wi.set1 _ _ 0 _)).trans (Wi.set1 _ _ 1 _))
      have HBXA := hid hbx_
      have hs0_ := pw_cell_below bA.out k0
      have hs1_ := pw_cell_below bA.out k1
      have hf0_ := blk_frozen hbx_ 0
      have hf1_ := blk_frozen hbx_ 1
      clear oA hbx_ bA
      refine last_ (i := 8) (N := none) #[true, true, true, true, true, true, true, true, true] rfl rfl (by kernel_rfl) (by decide) (fun K hK => ?_)
      refine skip_ (w1 := ?_) (by rfl) rfl ?_ ?_
      rotate_left
      · go_simp
        rfl
      refine hK.out _ _ ?_
      clear hK K hs0_ hs1_ hf0_ hf1_ k0 k1
      refine done_ (by kernel_rfl) ?_
      generalize ((wa.setCell ⟨XB, 0, none⟩ (.slice X R.g.length yX)).setCell ⟨XB, 1, none⟩ (.slice U R.e.length vU)) = W7 at *
      go_wp2
      go_roundw
      case rel => exact ⟨j + 1, _, _, R, hkk.out.1, by go_num, HDN, HEN, HPN⟩
      case measure => simp [RowKit.intOf]; have := hkk.out; clear e1; omega
    · obtain rfl : m = j := by omega
      have t1 : decide ((m : Int) < (m : Int)) = false := decide_eq_false (by omega)
      have hok : exOk l sc = true := exOk_all (by rw [HLN.out]; omega) (by rw [HSN.out]; omega) (by rw [HSN.out]; exact HP.out)
      obtain ⟨Z, hZ⟩ : ∃ Z, exR l l.length (sentS l sc sc.length) 0 = Z := ⟨_, rfl⟩
      have hxs : exS l sc = (Z.1.g, (Z.2 : Int)) := by rw [exS, if_pos hok, hZ]
      have HXS := hid hxs
      have hz := exR_facts (vs := l) (by rw [HLN.out]; omega) l.length (sentS l sc sc.length) 0 (good_sent l sc (by rw [HLN.out]; omega) _) (by omega)
      rw [hZ] at hz
      rw [HSN.out, ← HE.out] at hZ hz
      have HZB := hid (show Z.2 ≤ 100 by have := hz.2.2.2; have := HLN.out; omega)
      have HRUN := hid (show ∃ f, l.length - s.g.length ≤ f ∧ exR l f s 0 = Z from ⟨_, by omega, hZ⟩)
      clear hok hz hZ hxs
      go_upto_region 13 with fail
      go_wp2_with fail
      refine (spec_Missing _ s (n : Int) _ HIB.out HOK.out (by omega)).mono ?_
      rintro e w3 ⟨v, rfl, o3, b3⟩
      obtain ⟨X, yX, rfl, _⟩ := o3.reads
      have HF0 := hid (show FO w3 w.heap.size 3 1 (.slice X (misS s (n : Int)).length yX) (misS s (n : Int)).length (misS s (n : Int)) from ⟨(o3.base HD.out.bw.size).out⟩)
      have HD3 := hid (HD.out.to b3)
      clear o3 b3 k0 k1 HD HE HP HOK HSL HIB t1
      go_wp2
      go_loopw [9, 10] (fun v9 v10 wr => ∃ (rr : Nat) (X : Option Addr) (K y : Nat) (vg ve : Value) (s0 : Ib), v9 = .int .i64 rr ∧ v10 = .slice X K y ∧ Hid (FO wr w.heap.size 3 1 (.slice X K y) K (misS s0 (n : Int))) ∧ Hid (DlS w wr XB vg ve s0) ∧ Hid (Good l s0) ∧ Hid (∃ f, l.length - s0.g.length ≤ f ∧ exR l f s0 rr = Z)) (fun _ _ wr => 200 - sliceLen1 (wr.cell? ⟨XB, 0, none⟩))
      case atStart => exact ⟨0, _, _, _, _, _, s, rfl, rfl, HF0, HD3, HG, HRUN⟩
      case round =>
        clear HF0 HD3 HG HRUN
        obtain ⟨rr, X, K, y, vg, ve, s0, rfl, rfl, HF, HD, HG, HRUN⟩ := hrel
        have HKL := hid (show (misS s0 (n : Int)).length = K from HF.out.ri'.len)
        have HG0 := HG
        have hgl := HG.out.gl
        rw [HLN.out] at hgl
        have hrr : rr ≤ 100 := by
          obtain ⟨f, h1, h2⟩ := HRUN.out
          have := (exR_facts (vs := l) (by rw [HLN.out]; omega) f s0 rr HG.out h1).2.2.1
          rw [h2] at this
          exact Nat.le_trans this HZB.out
        by_cases hsl : s0.g.length < n
        · obtain ⟨L, hL⟩ := mis_some HG.out (by rw [HLN.out]; exact hsl)
          rw [HLN.out] at hL
          have hK0 : 0 < K := by rw [← HKL.out, hL]; simp
          have hK1 : K ≤ 100 := by
            have h1 := misF_len s0.e (n - s0.g.length) s0.g.length
            rw [← misS_nat, HKL.out] at h1
            omega
          have t1 : decide ((K : Int) > 0) = true := decide_eq_true (by omega)
          have t1' : decide (0 < K) = true := decide_eq_true hK0
          have e1 : IntKind.i64.wrap ((rr : Int) + 1) = (rr : Int) + 1 := i64w (by omega) (by omega)
          have e2 : IntKind.i64.wrap ((K : Int) - 1) = (K : Int) - 1 := i64w (by clear e1; omega) (by clear e1; omega)
          have hru := round_up HG.out (by rw [HLN.out]; clear e1 e2; omega) (by rw [HLN.out]; exact hsl)
          have HRU := hid hru
          have HSL0 := hid hsl
          have hms : sliceLen1 (wr.cell? ⟨XB, 0, none⟩) = s0.g.length := by
            obtain ⟨Ag, cg, e9, _, _⟩ := HD.out.og.reads
            rw [blk_cell HD.out.bx 0, e9]
            rfl
          have HMS := hid hms
          have hrn : ∃ f, l.length - (roundS l s0).g.length ≤ f ∧ exR l f (roundS l s0) (rr + 1) = Z := by
            obtain ⟨f, h1, h2⟩ := HRUN.out
            have hl := HLN.out
            cases f with
            | zero => clear e1 e2; omega
            | succ f =>
              rw [exR, if_pos (by rw [HLN.out]; exact hsl)] at h2
              exact ⟨f, by have := hru.2; clear e1 e2; omega, h2⟩
          have HRN := hid hrn
          clear hL hsl hru hms hrn
          go_wp2
          go_loopw [11] (fun v11 wr => ∃ (i : Nat) (z : Int) (vg ve : Value) (s : Ib), i ≤ K ∧ z = (i : Int) - 1 ∧ v11 = .int .i64 z ∧ Hid (DlS w wr XB vg ve s) ∧ Hid (Good l s) ∧ Hid (s = ((misS s0 (n : Int)).drop i).foldr (stepB l) s0) ∧ Hid (FO wr w.heap.size 3 1 (.slice X K y) K (misS s0 (n : Int)))) (fun v11 _ => (RowKit.intOf v11 + 1).toNat)
          case atStart => exact ⟨K, _, _, _, _, Nat.le_refl _, rfl, rfl, HD, HG, hid (by rw [List.drop_of_length_le (by rw [HKL.out]; exact Nat.le_refl _)]; rfl), HF⟩
          case round =>
            clear HD HG HF t1 t1' e1 e2
            obtain ⟨i, z, vg, ve, s, hi, hz, rfl, HD, HG, HE, HF⟩ := hrel
            obtain ⟨Ag, cg, rfl, hgc, hgr⟩ := HD.out.og.reads
            obtain ⟨Be, de, rfl, hec, her⟩ := (show PkO _ _ _ _ _ from HD.out.oe).reads
            have HIB := hid (show IbR wr (.agg #[.slice Ag s.g.length cg, .slice Be s.e.length de]) s from HD.out.ib.r)
            clear hgc hgr hec her
            have HOK := hid (HG.out.ibOk (by rw [HLN.out]; omega))
            have HSL := hid (show s.g.length ≤ 1048576 ∧ s.e.length ≤ 1048576 by have := ibOk_len HOK.out; omega)
            have k0 := (blk_cell HD.out.bx 0).trans (show _ = some (Value.slice Ag s.g.length cg) from rfl)
            have k1 := (blk_cell HD.out.bx 1).trans (show _ = some (Value.slice Be s.e.length de) from rfl)
            cases i with
            | zero =>
              obtain rfl : z = -1 := by omega
              have t1 : decide ((-1 : Int) ≥ 0) = false := by decide
              have t1' : decide ((0 : Int) ≤ -1) = false := by decide
              have hsr := HE.out
              rw [List.drop_zero] at hsr
              have HSR := hid (show s = roundS l s0 by rw [hsr, roundS, HLN.out])
              clear hz hsr
              go_wp2_with fail
              refine (spec_Missing _ s (n : Int) _ HIB.out HOK.out (by omega)).mono ?_
              rintro e w3 ⟨v, rfl, o3, b3⟩
              obtain ⟨X9, y9, rfl, _⟩ := o3.reads
              have HF9 := hid (show FO w3 w.heap.size 3 1 (.slice X9 (misS s (n : Int)).length y9) (misS s (n : Int)).length (misS s (n : Int)) from ⟨(o3.base HD.out.bw.size).out⟩)
              have HD9 := hid (HD.out.to b3)
              have hm9 : sliceLen1 (w3.cell? ⟨XB, 0, none⟩) = s.g.length := by rw [blk_cell HD9.out.bx 0]; rfl
              have HM9 := hid hm9
              have hgl2 := HG.out.gl
              rw [HLN.out] at hgl2
              have HGL2 := hid hgl2
              clear o3 b3 k0 k1 hm9 hgl2
              go_wp2
              go_roundw
              case rel => exact ⟨rr + 1, _, _, _, _, _, s, by go_num, rfl, HF9, HD9, HG, by rw [HSR.out]; exact HRN⟩
              case measure =>
                rw [HMS.out, HM9.out]
                have h8 := HRU.out.2
                have h9 := HGL2.out
                rw [← HSR.out] at h8
                omega
            | succ p =>
              obtain rfl : z = (p : Int) := by omega
              have t1 : decide ((p : Int) ≥ 0) = true := decide_eq_true (by omega)
              have t1' : decide ((0 : Int) ≤ (p : Int)) = true := decide_eq_true (by omega)
              have e1 : IntKind.i64.wrap ((p : Int) - 1) = (p : Int) - 1 := i64w (by omega) (by omega)
              have hpl : p < (misS s0 (n : Int)).length := by rw [HKL.out]; clear e1; omega
              obtain ⟨ap, rfl, hlp⟩ := HF.out.ri'.nat p (by clear e1; omega)
              obtain ⟨kq, hkq, hkn⟩ := mis_in (vs := l) HG0.out (rd (misS s0 (n : Int)) (p : Int)) (by rw [HLN.out]; exact rd_mem hpl)
              rw [HLN.out] at hkn
              have hdr : s0.e.length + 1 > 0 := by omega
              have HDR := hid (show ∀ R, delS s ⟨(kq : Int), rd l (kq : Int)⟩ = R → R = ((misS s0 (n : Int)).drop p).foldr (stepB l) s0 from fun R h => by
                rw [List.drop_eq_getElem_cons hpl, List.foldr_cons, ← HE.out, stepB]
                have e9 : (misS s0 (n : Int))[p] = (kq : Int) := by rw [← hkq, rd_nat, List.getD_eq_getElem?_getD, List.getElem?_eq_getElem hpl]; rfl
                rw [e9, h])
              rw [hkq] at hlp
              obtain ⟨al, rfl, hlq⟩ := (HL.out.to HD.out.bw).nat kq hkn
              obtain ⟨R, hR⟩ : ∃ R, delS s ⟨(kq : Int), rd l (kq : Int)⟩ = R := ⟨_, rfl⟩
              have HR := hid hR
              have HEN := hid (HDR.out R hR)
              have HGR := hid (show Good l R by rw [← hR]; exact (good_del HG.out (by rw [HLN.out]; clear e1; omega) kq (by rw [HLN.out]; exact hkn)).1)
              have j1 : (0 : Int) ≤ (kq : Int) := by clear e1; omega
              have j2 : (kq : Int) < (n : Int) := by clear e1; omega
              have j3 : (0 : Int) ≤ (p : Int) := by clear e1; omega
              have j4 : (p : Int) < (K : Int) := by clear e1; omega
              have HPK := hid (show p ≤ K by clear e1; omega)
              clear hR hkq hkn hpl hdr hz HDR
              generalize rd l (kq : Int) = yv at *
              go_upto_region 20 with fail
              refine start_ (n := 15) (S := fun w' => w'.cell? ⟨XB, 0, none⟩ = some (.slice Ag s.g.length cg) ∧ w'.cell? ⟨XB, 1, none⟩ = some (.slice Be s.e.length de) ∧ w'.cell? (ap.add p) = some (.int .i64 (kq : Int)) ∧ w'.cell? (al.add kq) = some (.int .i64 yv)) (ds := [14]) #[false, false, false, false, false, false, false, false, false, false, false, false, false, false, false] (by kernel_rfl) rfl rfl ⟨k0, k1, hlp, hlq⟩ (fun hHeld => ?_)
              refine take_ (i := 0) (N := (some 79)) (v := ?_) (a' := ?_) #[true, false, false, false, false, false, false, false, false, false, false, false, false, false, false] rfl rfl (by kernel_rfl) (fun _ _ _ h => h) (Or.inl ⟨by rfl, ?_⟩) hHeld ?_ ?_
              rotate_left
              · rintro w' ⟨s0, s1, s2, s3⟩
                go_simp
                with_reducible rfl
              rotate_left
              · simp only [Act.put, List.setIfInBounds_toArray, List.set_cons_zero, List.set_cons_succ, i64_w, i32_w]
                rfl
              refine pure_ (i := 1) (N := (some 80)) (v := ?_) (a' := ?_) #[true, true, false, false, false, false, false, false, false, false, false, false, false, false, false] rfl rfl (by kernel_rfl) (fun _ _ _ h => h) (Or.inl ⟨by rfl, ?_⟩) ?_ ?_
              rotate_left
              · intro w'
                go_simp
                with_reducible rfl
              rotate_left
              · simp only [Act.put, List.setIfInBounds_toArray, List.set_cons_zero, List.set_cons_succ, i64_w, i32_w]
                rfl
              refine pure_ (i := 2) (N := (some 81)) (v := ?_) (a' := ?_) #[true, true, true, false, false, false, false, false, false, false, false, false, false, false, false] rfl rfl (by kernel_rfl) (fun _ _ _ h => h) (Or.inl ⟨by rfl, ?_⟩) ?_ ?_
              rotate_left
              · intro w'
                go_simp
                with_reducible rfl
              rotate_left
              · simp only [Act.put, List.setIfInBounds_toArray, List.set_cons_zero, List.set_cons_succ, i64_w, i32_w]
                rfl
              refine pure_ (i := 3) (N := (some 82)) (v := ?_) (a' := ?_) #[true, true, true, true, false, false, false, false, false, false, false, false, false, false, false] rfl rfl (by kernel_rfl) (fun _ _ _ h => h) (Or.inl ⟨by rfl, ?_⟩) ?_ ?_
              rotate_left
              · intro w'
                go_simp
                with_reducible rfl
              rotate_left
              · simp only [Act.put, List.setIfInBounds_toArray, List.set_cons_zero, List.set_cons_succ, i64_w, i32_w]
                rfl
              refine take_ (i := 4) (N := (some 83)) (v := ?_) (a' := ?_) #[true, true, true, true, true, false, false, false, false, false, false, false, false, false, false] rfl rfl (by kernel_rfl) (fun _ _ _ h => h) (Or.inl ⟨by rfl, ?_⟩) hHeld ?_ ?_
              rotate_left
              · rintro w' ⟨s0, s1, s2, s3⟩
                go_simp
                with_reducible rfl
              rotate_left
              · simp only [Act.put, List.setIfInBounds_toArray, List.set_cons_zero, List.set_cons_succ, i64_w, i32_w]
                rfl
              refine pure_ (i := 5) (N := (some 84)) (v := ?_) (a' := ?_) #[true, true, true, true, true, true, false, false, false, false, false, false, false, false, false] rfl rfl (by kernel_rfl) (fun _ _ _ h => h) (Or.inl ⟨by rfl, ?_⟩) ?_ ?_
              rotate_left
              · intro w'
                go_simp
                with_reducible rfl
              rotate_left
              · simp only [Act.put, List.setIfInBounds_toArray, List.set_cons_zero, List.set_cons_succ, i64_w, i32_w]
                rfl
              refine pure_ (i := 6) (N := (some 85)) (v := ?_) (a' := ?_) #[true, true, true, true, true, true, true, false, false, false, false, false, false, false, false] rfl rfl (by kernel_rfl) (fun _ _ _ h => h) (Or.inl ⟨by rfl, ?_⟩) ?_ ?_
              rotate_left
              · intro w'
                go_simp
                with_reducible rfl
              rotate_left
              · simp only [Act.put, List.setIfInBounds_toArray, List.set_cons_zero, List.set_cons_succ, i64_w, i32_w]
                rfl
              refine pure_ (i := 7) (N := (some 86)) (v := ?_) (a' := ?_) #[true, true, true, true, true, true, true, true, false, false, false, false, false, false, false] rfl rfl (by kernel_rfl) (fun _ _ _ h => h) (Or.inl ⟨by rfl, ?_⟩) ?_ ?_
              rotate_left
              · intro w'
                go_simp
                with_reducible rfl
              rotate_left
              · simp only [Act.put, List.setIfInBounds_toArray, List.set_cons_zero, List.set_cons_succ, i64_w, i32_w]
                rfl
              refine pure_ (i := 8) (N := (some 87)) (v := ?_) (a' := ?_) #[true, true, true, true, true, true, true, true, true, false, false, false, false, false, false] rfl rfl (by kernel_rfl) (fun _ _ _ h => h) (Or.inl ⟨by rfl, ?_⟩) ?_ ?_
              rotate_left
              · intro w'
                go_simp
                with_reducible rfl
              rotate_left
              · simp only [Act.put, List.setIfInBounds_toArray, List.set_cons_zero, List.set_cons_succ, i64_w, i32_w]
                rfl
              refine take_ (i := 9) (N := (some 88)) (v := ?_) (a' := ?_) #[true, true, true, true, true, true, true, true, true, true, false, false, false, false, false] rfl rfl (by kernel_rfl) (fun _ _ _ h => h) (Or.inl ⟨by rfl, ?_⟩) hHeld ?_ ?_
              rotate_left
              · rintro w' ⟨s0, s1, s2, s3⟩
                go_simp
                with_reducible rfl
              rotate_left
              · simp only [Act.put, List.setIfInBounds_toArray, List.set_cons_zero, List.set_cons_succ, i64_w, i32_w]
                rfl
              refine pure_ (i := 10) (N := (some 89)) (v := ?_) (a' := ?_) #[true, true, true, true, true, true, true, true, true, true, true, false, false, false, false] rfl rfl (by kernel_rfl) (fun _ _ _ h => h) (Or.inl ⟨by rfl, ?_⟩) ?_ ?_
              rotate_left
              · intro w'
                go_simp
                with_reducible rfl
              rotate_left
              · simp only [Act.put, List.setIfInBounds_toArray, List.set_cons_zero, List.set_cons_succ, i64_w, i32_w]
                rfl
              refine take_ (i := 11) (N := (some 90)) (v := ?_) (a' := ?_) #[true, true, true, true, true, true, true, true, true, true, true, true, false, false, false] rfl rfl (by kernel_rfl) (fun _ _ _ h => h) (Or.inl ⟨by rfl, ?_⟩) hHeld ?_ ?_
              rotate_left
              · rintro w' ⟨s0, s1, s2, s3⟩
                go_simp
                with_reducible rfl
              rotate_left
              · simp only [Act.put, List.setIfInBounds_toArray, List.set_cons_zero, List.set_cons_succ, i64_w, i32_w]
                rfl
              refine pure_ (i := 12) (N := (some 91)) (v := ?_) (a' := ?_) #[true, true, true, true, true, true, true, true, true, true, true, true, true, false, false] rfl rfl (by kernel_rfl) (fun _ _ _ h => h) (Or.inl ⟨by rfl, ?_⟩) ?_ ?_
              rotate_left
              · intro w'
                go_simp
                with_reducible rfl
              rotate_left
              · simp only [Act.put, List.setIfInBounds_toArray, List.set_cons_zero, List.set_cons_succ, i64_w, i32_w]
                rfl
              clear hHeld
              have bD := Bw.drawn (a := wr) ⟨⟨1, rfl⟩⟩
              refine one_ (i := 13) (N := (some 92)) #[true, true, true, true, true, true, true, true, true, true, true, true, true, true, false] rfl rfl (by kernel_rfl) (by decide) (fun K hK => ?_)
              refine goes_ Try.func8 (by kernel_rfl) rfl #[.agg #[.slice Ag s.g.length cg, .slice Be s.e.length de], .agg #[.int .i64 (kq : Int), .int .i64 yv]] (by rfl) rfl rfl (by (try simp only [List.map_toArray, List.map_cons, List.map_nil]); first | done | rfl) ?_
              refine (spec_Del _ s (kq : Int) yv R _ (HIB.out.to bD) HSL.out HR.out).mono ?_
              rintro e wa ⟨X, yX, U, vU, rfl, oA, ba⟩
              refine ⟨_, rfl, ?_⟩
              have bA := bD.trans ba
              clear ba bD
              refine hK.out _ _ ⟨pw_cell_below bA.out k0, pw_cell_below bA.out k1, pw_cell_below bA.out hlp, pw_cell_below bA.out hlq⟩ (fun _ => ?_)
              clear hK K
              refine norm_ (a' := ?_) ?_ ?_
              rotate_left
              · show Act.put _ (some 92) _ = _
                simp only [Act.put, List.setIfInBounds_toArray, List.set_cons_zero, List.set_cons_succ, i64_w, i32_w]
                rfl
              have HDN := hid (HD.out.next bA oA (show w.heap.size ≤ wr.heap.size from HD.out.bw.size))
              have hbx_ := (bA.out.block _ (blk_lt HD.out.bx)).trans HD.out.bx
              have HBA := hid bA
              have HWX := hid (show Wi wa ((wa.setCell ⟨XB, 0, none⟩ (.slice X R.g.length yX)).setCell ⟨XB, 1, none⟩ (.slice U R.e.length vU)) XB (XB + 1) from ((Wi.refl wa _ _).trans (Wi.set1 _ _ 0 _)).trans (Wi.set1 _ _ 1 _))
              have HBXA := hid hbx_
              have hs0_ := pw_cell_below bA.out k0
              have hs1_ := pw_cell_below bA.out k1
              have hf0_ := blk_frozen hbx_ 0
              have hf1_ := blk_frozen hbx_ 1
              clear oA hbx_ bA
              refine last_ (i := 14) (N := none) #[true, true, true, true, true, true, true, true, true, true, true, true, true, true, true] rfl rfl (by kernel_rfl) (by decide) (fun K hK => ?_)
              refine skip_ (w1 := ?_) (by rfl) rfl ?_ ?_
              rotate_left
              · go_simp
                rfl
              refine hK.out _ _ ?_
              clear hK K hs0_ hs1_ hf0_ hf1_ k0 k1
              refine done_ (by kernel_rfl) ?_
              generalize ((wa.setCell ⟨XB, 0, none⟩ (.slice X R.g.length yX)).setCell ⟨XB, 1, none⟩ (.slice U R.e.length vU)) = W7 at *
              have HF7 := hid (FO.putK (FO.to HF.out HBA.out) HBXA.out (by decide) HWX.out)
              clear HBA HBXA HWX
              go_wp2
              go_roundw
              case rel => exact ⟨p, _, _, _, R, HPK.out, rfl, by go_num, HDN, HGR, HEN, HF7⟩
              case measure => simp [RowKit.intOf]
        · have hmn := mis_none (n := n) hsl
          obtain rfl : K = 0 := by rw [← HKL.out, hmn]; rfl
          have t1 : decide ((0 : Int) > 0) = false := by decide
          have HZE := hid (show Z = (s0, rr) by
            obtain ⟨f, h1, h2⟩ := HRUN.out
            rw [← h2, exR_end (by rw [HLN.out]; exact hsl)])
          obtain ⟨Ag, cg, rfl, hgc, hgr⟩ := HD.out.og.reads
          have k0 := (blk_cell HD.out.bx 0).trans (show _ = some (Value.slice Ag s0.g.length cg) from rfl)
          have bL := Bw.box1 wr (.cells #[] 3)
          have HBL := hid (HD.out.bw.trans bL)
          have HL0 := hid ((OI.lit0 wr wr.heap.size (Nat.le_refl _)).base HD.out.bw.size)
          have HRG := hid (hgr.ri.to bL)
          have HG100 := hid (show s0.g.length ≤ 100 by omega)
          replace k0 := pw_cell_below bL.out k0
          clear bL hgc hgr hmn hsl
          go_wp2_with (at_builtin; refine appendInts (w0 := w) w.heap.size rfl _ _ rfl (.slice (some ⟨wr.heap.size, 0, none⟩) 0 0) [] s0.g Ag s0.g.length cg rfl rfl HL0.out HRG.out HBL.out.out HBL.out.size (by have := HG100.out; simp; omega) ?_; intro v1 w7 o7 B7 g7 _)
          have HO7 := hid (show OI w7 w.heap.size v1 s0.g.length s0.g from o7)
          clear o7
          go_ret2
          exact ⟨_, by rw [HXS.out, HZE.out]; rfl, by rw [HXS.out, HZE.out]; exact HO7.out, ⟨B7⟩⟩
end Go.Proofs.Ytcdibjneoemidaa.U
