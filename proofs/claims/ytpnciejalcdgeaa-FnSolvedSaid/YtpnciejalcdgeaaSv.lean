
/- SolveTo, by the program and by the reference. -/
import Derived.Test.YtpnciejalcdgeaaCz
import Derived.Test.YtpnciejalcdgeaaRp
set_option linter.unusedVariables false
set_option linter.unusedSimpArgs false
namespace Go.Proofs.Ytpnciejalcdgeaa.U
open Go.RowKit Go.Lib Go.Proofs.YtpnciejalcdgeaaW.PrintWords

attribute [local go_sem] go_max2 go_min2
/-- the unknowns after at most m cycles -/
def solveU (f : List Int) (k : Int) (n : Nat) (bound : Int) : Nat → List Int → List Int
  | 0, u => u
  | m + 1, u => if absMost (resTo u f k n n) n ≤ bound then u else solveU f k n bound m (cycL u f k n)
/-- What SolveTo answers. -/
def solveL (f : List Int) (k bound most : Int) : List Int × Int :=
  if (sysOk f f k && inR most 0 100) = true then
    (solveU f k f.length bound most.toNat (List.replicate f.length (constPart f)), absMost (resTo (solveU f k f.length bound most.toNat (List.replicate f.length (constPart f))) f k f.length f.length) f.length)
  else ([], -1)
theorem const_bd (f : List Int) (h : unkOk f 1000000000 = true) : -1000000000 ≤ constPart f ∧ constPart f ≤ 1000000000 := by
  have h1 := unkOk_iff.1 h
  have h2 := sum_bound f (-1000000000) 1000000000 h1.2
  obtain ⟨n, hn⟩ : ∃ n, f.length = n := ⟨_, rfl⟩
  rw [hn] at h1 h2
  rw [constPart, if_pos h, hn]
  generalize f.sum = s at *
  have h3 : (0 : Int) < (n : Int) := by omega
  constructor
  · exact (Int.le_ediv_iff_mul_le h3).2 (by omega)
  · have := (Int.ediv_le_ediv h3 (show s ≤ 1000000000 * (n : Int) by omega))
    rwa [Int.mul_ediv_cancel _ (by omega)] at this
theorem rep_bd (n : Nat) (x B : Int) (h : -B ≤ x ∧ x ≤ B) : Bd (List.replicate n x) B := ⟨fun j hj => by
  rw [List.length_replicate] at hj
  rw [rd_nat, List.getD_eq_getElem?_getD, List.getElem?_replicate, if_pos hj]
  exact h⟩
theorem solveU_good (f : List Int) (k : Int) (n : Nat) (bound : Int) (hlf : f.length = n) (hf : Bd f 1000000000) (hk : 0 ≤ k) :
    ∀ (m : Nat) (u : List Int), u.length = n → Bd u 1000000000 → (solveU f k n bound m u).length = n ∧ Bd (solveU f k n bound m u) 1000000000
  | 0, u, hl, hu => ⟨hl, hu⟩
  | m + 1, u, hl, hu => by
    rw [solveU]
    split
    · exact ⟨hl, hu⟩
    · exact solveU_good f k n bound hlf hf hk m _ (cycL_length u f k n hl) (cycL_bd u f k n hl hlf hu hf hk)
theorem solveL_len (f : List Int) (k bound most : Int) : (solveL f k bound most).1.length ≤ 1048576 := by
  unfold solveL
  split
  · rename_i h
    rw [Bool.and_eq_true] at h
    have h2 := sysOk_facts h.1
    have := (solveU_good f k f.length bound rfl h2.2.2.2.1 h2.2.2.2.2.1 most.toNat (List.replicate f.length (constPart f)) (by simp) (rep_bd _ _ _ (const_bd f (by have := h.1; simp only [sysOk, Bool.and_eq_true] at this; exact this.1.2)))).1
    simp only [this]
    omega
  · simp
theorem lit1 (W : World) (x : Int) : RI (W.alloc (.cells #[.int .i64 x] 3)) (some ⟨W.heap.size, 0, none⟩) 1 [x] := by
  have h : OI (W.alloc (.cells #[.int .i64 x] 3)) W.heap.size (.slice (some ⟨W.heap.size, 0, none⟩) 1 1) 1 [x] := ⟨own_lit W W.heap.size 3 .i64 [x] (Nat.le_refl _) (by simp)⟩
  exact h.ri
set_option maxRecDepth 100000 in
set_option maxHeartbeats 8000000 in
theorem impl_SolveTo (A : Option Addr) (n c : Nat) (f : List Int) (k bound most : Int) (w : World) (r : RI w A n f) :
    Calls Try.prog 14 #[.slice A n c, .int .i64 k, .int .i64 bound, .int .i64 most] w fun e w' => ∃ v, e = .returned (.tuple #[v, .int .i64 (solveL f k bound most).2]) ∧ OI w' w.heap.size v (solveL f k bound most).1.length (solveL f k bound most).1 ∧ Bw w w' := by
  have hl := r.len
  cases hs : sysOk f f k with
  | false =>
    rw [show solveL f k bound most = ([], -1) by simp [solveL, hs]]
    have HS := hid hs; clear hs hl
    go_enter Try.func14, Try.ntmps14
    go_wp2_with fail
    refine (impl_SystemOk A n c f A n c f k _ r r).mono ?_
    rintro e w1 ⟨rfl, b⟩
    rw [HS.out]
    go_wp2
    go_ret2
    exact ⟨_, rfl, OI.nil _ _, b⟩
  | true =>
    cases hm : inR most 0 100 with
    | false =>
      rw [show solveL f k bound most = ([], -1) by simp [solveL, hm]]
      have HS := hid hs; clear hs hl
      have HM := hid hm; clear hm
      go_enter Try.func14, Try.ntmps14
      go_wp2_with fail
      refine (impl_SystemOk A n c f A n c f k _ r r).mono ?_
      rintro e w1 ⟨rfl, b⟩
      rw [HS.out]
      go_wp2_with fail
      refine (within _ _ _ _).mono ?_
      rintro e w2 ⟨rfl, rfl⟩
      rw [HM.out]
      go_wp2
      go_ret2
      exact ⟨_, rfl, OI.nil _ _, b⟩
    | true =>
      obtain ⟨_, f2, _, f4, f5, f6⟩ := sysOk_facts hs
      have hu1 : unkOk f 1000000000 = true := by have := hs; simp only [sysOk, Bool.and_eq_true] at this; exact this.1.2
      have hcb := const_bd f hu1
      have hm1 := inR_iff.1 hm
      obtain ⟨m, rfl⟩ := Int.eq_ofNat_of_zero_le hm1.1
      have hm2 : m ≤ 100 := by omega
      rw [show solveL f k bound (m : Int) = (solveU f k n bound m (List.replicate n (constPart f)), absMost (resTo (solveU f k n bound m (List.replicate n (constPart f))) f k n n) n) by simp [solveL, hs, hm, hl]]
      rw [hl] at f2
      have hgood := solveU_good f k n bound hl f4 f5 m (List.replicate n (constPart f)) (by simp) (rep_bd _ _ _ hcb)
      simp only [hgood.1]
      obtain ⟨R, HR⟩ : ∃ R, Hid (R = solveU f k n bound m (List.replicate n (constPart f))) := ⟨_, hid rfl⟩
      rw [← HR.out]
      have HS := hid hs; clear hs
      have HM := hid hm; clear hm hm1
      have HF := hid f4; clear f4 hgood hu1
      have HLF := hid hl; clear hl
      generalize hx : constPart f = x at *
      have HX := hid hx; clear hx
      go_enter Try.func14, Try.ntmps14
      go_wp2_with fail
      refine (impl_SystemOk A n c f A n c f k _ r r).mono ?_
      rintro e w1 ⟨rfl, b⟩
      rw [HS.out]
      replace r := r.to b
      go_wp2_with fail
      refine (within _ _ _ _).mono ?_
      rintro e w2 ⟨rfl, rfl⟩
      rw [HM.out]
      go_wp2_with fail
      refine (impl_ConstantPart A n c f _ r).mono ?_
      rintro e w2 ⟨rfl, b2⟩
      rw [HX.out]
      replace r := r.to b2
      replace b := b.trans b2
      clear b2
      have hb1 : Bw w2 (w2.alloc (.cells #[.int .i64 x] 3)) := (Bw.refl w2).alloc _
      go_wp2_with fail
      refine (repeatInts (some ⟨w2.heap.size, 0, none⟩) 1 n x _ (lit1 w2 x) f2).mono ?_
      rintro e w3 ⟨v, rfl, o, b3⟩
      replace o := o.base hb1.size
      replace b3 := hb1.trans b3
      replace r := r.to b3
      replace o := o.base b.size
      replace b := b.trans b3
      clear b3 hb1
      go_wp2
      go_loopw [10, 28] (fun v i wr => ∃ (j : Nat) (u : List Int), j ≤ m ∧ i = .int .i64 j ∧ OI wr w.heap.size v n u ∧ Hid (Bd u 1000000000) ∧ Hid (R = solveU f k n bound (m - j) u) ∧ Bw w wr ∧ RI wr A n f) (fun _ i _ => m - (intOf i).toNat)
      case atStart => exact ⟨0, List.replicate n x, by omega, rfl, o, hid (rep_bd _ _ _ hcb), HR, b, r⟩
      case round =>
        obtain ⟨j, u, hj, rfl, hO, hU, hE, hB, hQ⟩ := hrel
        obtain ⟨Au, cu, rfl, _⟩ := hO.reads
        have HUL := hid hO.len
        by_cases hlt : j < m
        · have t1 : decide ((j : Int) < (m : Int)) = true := decide_eq_true (by omega)
          have hstep := hE.out
          rw [show m - j = (m - (j + 1)) + 1 by omega, solveU] at hstep
          go_wp2_with fail
          refine (impl_errorBound Au n cu u A n c f k _ hO.ri hQ (Nat.le_refl _) (by omega) (hU.out.mono (by omega)) (HF.out.mono (by omega)) f5 f6).mono ?_
          rintro e w5 ⟨rfl, b5⟩
          replace hQ := hQ.to b5
          replace hO := hO.to b5
          replace hB := hB.trans b5
          clear b5
          by_cases he : absMost (resTo u f k n n) n ≤ bound
          · rw [if_pos he] at hstep
            have HST := hid hstep
            clear hstep hE
            have t2 : decide (absMost (resTo u f k n n) n ≤ bound) = true := decide_eq_true he
            clear he
            go_wp2_with fail
            refine (impl_errorBound Au n cu u A n c f k _ hO.ri hQ (Nat.le_refl _) (by omega) (hU.out.mono (by omega)) (HF.out.mono (by omega)) f5 f6).mono ?_
            rintro e w6 ⟨rfl, b6⟩
            go_wp2
            go_ret2
            obtain rfl := HST.out
            exact ⟨_, rfl, hO.to b6, hB.trans b6⟩
          · rw [if_neg he] at hstep
            have HST := hid hstep
            clear hstep hE
            have t2 : decide (absMost (resTo u f k n n) n ≤ bound) = false := decide_eq_false he
            clear he
            go_wp2_with fail
            refine (impl_cycle Au n cu u A c f k _ hO.ri hQ f2 hU.out HF.out f5 f6).mono ?_
            rintro e w6 ⟨v, rfl, o6, b6⟩
            go_wp2
            go_roundw
            case rel => exact ⟨j + 1, _, by omega, by go_num, o6.base hB.size, hid (cycL_bd u f k n HUL.out HLF.out hU.out HF.out f5), hid HST.out, hB.trans b6, hQ.to b6⟩
            case measure => simp [intOf]; omega
        · obtain rfl : j = m := by omega
          have t1 : decide ((j : Int) < (j : Int)) = false := decide_eq_false (by omega)
          have hE2 := hid (show R = u by have := hE.out; rwa [Nat.sub_self, solveU] at this)
          clear hE HR
          go_wp2_with fail
          refine (impl_errorBound Au n cu u A n c f k _ hO.ri hQ (Nat.le_refl _) (by omega) (hU.out.mono (by omega)) (HF.out.mono (by omega)) f5 f6).mono ?_
          rintro e w6 ⟨rfl, b6⟩
          go_wp2
          go_ret2
          obtain rfl := hE2.out
          exact ⟨_, rfl, hO.to b6, hB.trans b6⟩
set_option maxRecDepth 100000 in
set_option maxHeartbeats 8000000 in
theorem spec_SolveTo (A : Option Addr) (n c : Nat) (f : List Int) (k bound most : Int) (w : World) (r : RI w A n f) :
    Calls Try.prog 22 #[.slice A n c, .int .i64 k, .int .i64 bound, .int .i64 most] w fun e w' => ∃ v, e = .returned (.tuple #[v, .int .i64 (solveL f k bound most).2]) ∧ OI w' w.heap.size v (solveL f k bound most).1.length (solveL f k bound most).1 ∧ Bw w w' := by
  have hl := r.len
  have r0 := r
  cases hs : sysOk f f k with
  | false =>
    rw [show solveL f k bound most = ([], -1) by simp [solveL, hs]]
    have HS := hid hs; clear hs hl
    go_enter Try.func22, Try.ntmps22
    go_wp2_with fail
    refine (spec_SystemOk A n c f A n c f k _ r r).mono ?_
    rintro e w1 ⟨rfl, d1⟩
    have b := Bw.drawn d1
    clear d1
    rw [HS.out]
    go_wp2
    go_ret2
    exact ⟨_, rfl, (OI.lit0 w1 w1.heap.size (Nat.le_refl _)).base b.size, b.alloc _⟩
  | true =>
    cases hm : inR most 0 100 with
    | false =>
      rw [show solveL f k bound most = ([], -1) by simp [solveL, hm]]
      have HS := hid hs; clear hs hl
      have HM := hid hm; clear hm
      go_enter Try.func22, Try.ntmps22
      go_wp2_with fail
      refine (spec_SystemOk A n c f A n c f k _ r r).mono ?_
      rintro e w1 ⟨rfl, d1⟩
      have b := Bw.drawn d1
      clear d1
      rw [HS.out]
      go_wp2_with fail
      refine (l01In _ _ _ _).mono ?_
      rintro e w2 ⟨rfl, rfl⟩
      rw [HM.out]
      go_wp2
      go_ret2
      exact ⟨_, rfl, (OI.lit0 w1 w1.heap.size (Nat.le_refl _)).base b.size, b.alloc _⟩
    | true =>
      obtain ⟨_, f2, _, f4, f5, f6⟩ := sysOk_facts hs
      have hu1 : unkOk f 1000000000 = true := by have := hs; simp only [sysOk, Bool.and_eq_true] at this; exact this.1.2
      have hcb := const_bd f hu1
      have hm1 := inR_iff.1 hm
      obtain ⟨m, rfl⟩ := Int.eq_ofNat_of_zero_le hm1.1
      have hm2 : m ≤ 100 := by omega
      rw [show solveL f k bound (m : Int) = (solveU f k n bound m (List.replicate n (constPart f)), absMost (resTo (solveU f k n bound m (List.replicate n (constPart f))) f k n n) n) by simp [solveL, hs, hm, hl]]
      rw [hl] at f2
      have hgood := solveU_good f k n bound hl f4 f5 m (List.replicate n (constPart f)) (by simp) (rep_bd _ _ _ hcb)
      simp only [hgood.1]
      obtain ⟨R, HR⟩ : ∃ R, Hid (R = solveU f k n bound m (List.replicate n (constPart f))) := ⟨_, hid rfl⟩
      rw [← HR.out]
      have HCY := hid (fun (u : List Int) (h : u.length = n) (hb : Bd u 1000000000) => (show cycleL u f k = cycL u f k n by rw [cycleL, if_pos (sysOk_of h hl f2 hb f4 ⟨f5, f6⟩), h]))
      have HS := hid hs; clear hs
      have HM := hid hm; clear hm hm1
      have HF := hid f4; clear f4 hgood hu1
      have HLF := hid hl; clear hl
      generalize hx : constPart f = x at *
      have HX := hid hx; clear hx
      go_enter Try.func22, Try.ntmps22
      go_wp2_with fail
      refine (spec_SystemOk A n c f A n c f k _ r r).mono ?_
      rintro e w1 ⟨rfl, d1⟩
      have b := Bw.drawn d1
      clear d1
      rw [HS.out]
      replace r := r.to b
      go_wp2_with fail
      refine (l01In _ _ _ _).mono ?_
      rintro e w2 ⟨rfl, rfl⟩
      rw [HM.out]
      have o0 := OI.lit0 w1 w1.heap.size (Nat.le_refl _)
      have b0 : Bw w1 (w1.alloc (.cells #[] 3)) := (Bw.refl w1).alloc _
      go_wp2_with fail
      refine (spec_ConstantPart A n c f _ (r.to b0)).mono ?_
      rintro e w2 ⟨rfl, d2⟩
      rw [HX.out]
      have o := (o0.to (Bw.drawn d2)).base b.size
      replace b0 := b0.trans (Bw.drawn d2)
      replace r := r.to b0
      replace b := b.trans b0
      clear o0 b0 d2
      go_wp2
      go_loopw [10, 12] (fun v i wr => ∃ j : Nat, j ≤ n ∧ i = .int .i64 j ∧ OI wr w.heap.size v (List.replicate j x).length (List.replicate j x) ∧ Bw w wr ∧ RI wr A n f) (fun _ i _ => n - (intOf i).toNat)
      case atStart => exact ⟨0, by omega, rfl, o, b, r⟩
      case round =>
        obtain ⟨j, hj, rfl, hO, hB, hQ⟩ := hrel
        obtain ⟨Au, cu, rfl, _⟩ := hO.reads
        have HREP := hid (show List.replicate j x ++ [x] = List.replicate (j + 1) x by rw [List.replicate_succ'])
        have hrl : (List.replicate j x).length = j := List.length_replicate
        by_cases hlt : j < n
        · have t1 : decide ((j : Int) < (n : Int)) = true := decide_eq_true (by omega)
          have HRL := hid hrl
          clear hrl
          generalize List.replicate j x = L at *
          go_wp2_with (at_builtin; refine print_append_num (w0 := w) w.heap.size rfl _ _ 24 3 .i64 8 rfl Try.underlying24 info_int (by omega) (.slice Au L.length cu) L x rfl rfl hO.out hB.out hB.size (by have := HRL.out; omega) ?_; intro v1 w3 hown1 hB1 hg1 hat1)
          go_roundw
          case rel => exact ⟨j + 1, by omega, by go_num, by rw [← HREP.out]; exact OI.app hown1, ⟨hB1⟩, r0.to ⟨hB1⟩⟩
          case measure => simp [intOf]; omega
        · obtain rfl : j = n := by omega
          have t1 : decide ((j : Int) < (j : Int)) = false := decide_eq_false (by omega)
          have HRL := hid hrl
          have HBD := hid (rep_bd j x 1000000000 hcb)
          clear hrl HREP
          generalize List.replicate j x = L at *
          go_wp2
          go_loopw [10, 13] (fun v i wr => ∃ (p : Nat) (u : List Int), p ≤ m ∧ i = .int .i64 p ∧ OI wr w.heap.size v j u ∧ Hid (Bd u 1000000000) ∧ Hid (R = solveU f k j bound (m - p) u) ∧ Bw w wr ∧ RI wr A j f) (fun _ i _ => m - (intOf i).toNat)
          case atStart => exact ⟨0, L, by omega, rfl, by have h := hO; rw [HRL.out] at h ⊢; exact h, HBD, HR, hB, hQ⟩
          case round =>
            obtain ⟨p, u, hp, rfl, hO, hU, hE, hB, hQ⟩ := hrel
            obtain ⟨Au, cu, rfl, _⟩ := hO.reads
            have HUL := hid hO.len
            by_cases hlt : p < m
            · have t1 : decide ((p : Int) < (m : Int)) = true := decide_eq_true (by omega)
              have hstep := hE.out
              rw [show m - p = (m - (p + 1)) + 1 by omega, solveU] at hstep
              go_wp2_with fail
              refine (spec_errOk Au j cu u A c f k _ hO.ri hQ f2 hU.out HF.out ⟨f5, f6⟩).mono ?_
              rintro e w5 ⟨rfl, b5⟩
              replace hQ := hQ.to b5
              replace hO := hO.to b5
              replace hB := hB.trans b5
              clear b5
              by_cases he : absMost (resTo u f k j j) j ≤ bound
              · rw [if_pos he] at hstep
                have HST := hid hstep
                clear hstep hE
                have t2 : decide (bound < absMost (resTo u f k j j) j) = false := decide_eq_false (by omega)
                clear he
                go_wp2_with fail
                refine (spec_errOk Au j cu u A c f k _ hO.ri hQ f2 hU.out HF.out ⟨f5, f6⟩).mono ?_
                rintro e w6 ⟨rfl, b6⟩
                go_wp2
                go_ret2
                obtain rfl := HST.out
                exact ⟨_, rfl, hO.to b6, hB.trans b6⟩
              · rw [if_neg he] at hstep
                have HST := hid hstep
                clear hstep hE
                have t2 : decide (bound < absMost (resTo u f k j j) j) = true := decide_eq_true (by omega)
                clear he
                go_wp2_with fail
                refine (spec_Cycle Au j cu u A j c f k _ hO.ri hQ).mono ?_
                rintro e w6 ⟨v, rfl, o6, b6⟩
                rw [HCY.out u HUL.out hU.out, cycL_length u f k j HUL.out] at o6
                go_wp2
                go_roundw
                case rel => exact ⟨p + 1, _, by omega, by go_num, o6.base hB.size, hid (cycL_bd u f k j HUL.out HLF.out hU.out HF.out f5), hid HST.out, hB.trans b6, hQ.to b6⟩
                case measure => simp [intOf]; omega
            · obtain rfl : p = m := by omega
              have t1 : decide ((p : Int) < (p : Int)) = false := decide_eq_false (by omega)
              have hE2 := hid (show R = u by have := hE.out; rwa [Nat.sub_self, solveU] at this)
              clear hE HR
              go_wp2_with fail
              refine (spec_errOk Au j cu u A c f k _ hO.ri hQ f2 hU.out HF.out ⟨f5, f6⟩).mono ?_
              rintro e w6 ⟨rfl, b6⟩
              go_wp2
              go_ret2
              obtain rfl := hE2.out
              exact ⟨_, rfl, hO.to b6, hB.trans b6⟩
end Go.Proofs.Ytpnciejalcdgeaa.U
