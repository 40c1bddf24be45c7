
/- A cycle of the multigrid, by the reference. -/
import Derived.Test.YtpnciejalcdgeaaCy
import Derived.Test.YtpnciejalcdgeaaRs
import Derived.Test.YtpnciejalcdgeaaEs
set_option linter.unusedVariables false
set_option linter.unusedSimpArgs false
namespace Go.Proofs.Ytpnciejalcdgeaa.U
open Go.RowKit Go.Lib Go.Proofs.YtpnciejalcdgeaaW.PrintWords

attribute [local go_sem] go_max2 go_min2
open Go.Proofs.YtpnciejalcdgeaaW.PrintLast Go.Proofs.YtpnciejalcdgeaaW.PrintMore
theorem sysOk_of {u f : List Int} {k : Int} {n : Nat} (hu : u.length = n) (hf : f.length = n) (hn : 1 ≤ n ∧ n ≤ 64) (bu : Bd u 1000000000) (bf : Bd f 1000000000) (hk : 0 ≤ k ∧ k ≤ 1000) : sysOk u f k = true := by
  simp only [sysOk, Bool.and_eq_true, decide_eq_true_eq]
  exact ⟨⟨⟨by omega, unkOk_iff.2 ⟨by omega, bu.mem⟩⟩, unkOk_iff.2 ⟨by omega, bf.mem⟩⟩, inR_iff.2 hk⟩
theorem spec_relaxOk (A : Option Addr) (n c : Nat) (u : List Int) (B : Option Addr) (d : Nat) (f : List Int) (k : Int) (w : World) (r : RI w A n u) (q : RI w B n f) (hn : 1 ≤ n ∧ n ≤ 64) (bu : Bd u 1000000000) (bf : Bd f 1000000000) (hk : 0 ≤ k ∧ k ≤ 1000) :
    Calls Try.prog 39 #[.slice A n c, .slice B n d, .int .i64 k] w fun e w' => ∃ v, e = .returned v ∧ OI w' w.heap.size v n (relTo u f k n n) ∧ Bw w w' := by
  have h := spec_Relax A n c u B n d f k w r q
  rwa [show relL u f k = relTo u f k n n by simp [relL, sysOk_of r.len q.len hn bu bf hk, r.len], relTo_length, r.len] at h
theorem spec_clampId (A : Option Addr) (n c : Nat) (l : List Int) (w : World) (r : RI w A n l) (hn : n ≤ 64) (hb : Bd l 1000000000) :
    Calls Try.prog 38 #[.slice A n c] w fun e w' => ∃ v, e = .returned v ∧ OI w' w.heap.size v n l ∧ Bw w w' := by
  have h := spec_l21Clamp A n c l w r (by omega)
  rwa [clTo_id l n r.len hb] at h
theorem spec_residualOk (A : Option Addr) (n c : Nat) (u : List Int) (B : Option Addr) (d : Nat) (f : List Int) (k : Int) (w : World) (r : RI w A n u) (q : RI w B n f) (hn : 1 ≤ n ∧ n ≤ 64) (bu : Bd u 1000000000) (bf : Bd f 1000000000) (hk : 0 ≤ k ∧ k ≤ 1000) :
    Calls Try.prog 35 #[.slice A n c, .slice B n d, .int .i64 k] w fun e w' => ∃ v, e = .returned v ∧ OI w' w.heap.size v n (resTo u f k n n) ∧ Bw w w' := by
  have h := spec_Residual A n c u B n d f k w r q
  rwa [show residualL u f k = resTo u f k n n by simp [residualL, sysOk_of r.len q.len hn bu bf hk, r.len], resTo_length] at h
theorem spec_coarseOk (A : Option Addr) (n c : Nat) (l : List Int) (w : World) (r : RI w A n l) (hcap : n ≤ c) (hn : 1 ≤ n ∧ n ≤ 64) (hb : Bd l 10000000000000) :
    Calls Try.prog 40 #[.slice A n c] w fun e w' => ∃ v, e = .returned v ∧ OI w' w.heap.size v ((n + 1) / 2) (coTo l n ((n + 1) / 2)) ∧ Bw w w' := by
  have h := spec_CoarsePart A n c l w r hcap
  have hl := r.len
  rwa [show coarseL l = coTo l n ((n + 1) / 2) by simp [coarseL, unkOk_iff.2 ⟨(by omega : 1 ≤ l.length ∧ l.length ≤ 64), hb.mem⟩, hl], coTo_length] at h
theorem spec_errOk (A : Option Addr) (n c : Nat) (u : List Int) (B : Option Addr) (d : Nat) (f : List Int) (k : Int) (w : World) (r : RI w A n u) (q : RI w B n f) (hn : 1 ≤ n ∧ n ≤ 64) (bu : Bd u 1000000000) (bf : Bd f 1000000000) (hk : 0 ≤ k ∧ k ≤ 1000) :
    Calls Try.prog 15 #[.slice A n c, .slice B n d, .int .i64 k] w fun e w' => e = .returned (.int .i64 (absMost (resTo u f k n n) n)) ∧ Bw w w' := by
  have h := spec_ErrorBound A n c u B n d f k w r q
  rwa [show errB u f k = absMost (resTo u f k n n) n by simp [errB, sysOk_of r.len q.len hn bu bf hk, r.len]] at h
theorem res_bd13 (u f : List Int) (k : Int) (n : Nat) (hu : Bd u 1000000000) (hf : Bd f 1000000000) (hn : n ≤ u.length) (hn2 : n ≤ f.length) (hk0 : 0 ≤ k) (hk1 : k ≤ 1000) : Bd (resTo u f k n n) 10000000000000 := ⟨fun j hj => by
  rw [resTo_length] at hj
  rw [resTo_rd u f k n n j hj]
  have h0 := near_by u n j 1000000000 (by omega) hu hn hj
  have hx := hu.out j (by omega)
  have hy := hf.out j (by omega)
  have hd := nearCnt_range n j
  have h1 := mul_range (a := k) (b := nearCnt n j) (A := 1000) (B := 2) (by omega) (by omega) (by omega) (by omega) (by omega)
  have h1' : 0 ≤ k * nearCnt n j := Int.mul_nonneg hk0 hd.1
  have h2 := mul_range (a := 1 + k * nearCnt n j) (b := rd u (j : Int)) (A := 2001) (B := 1000000000) (by omega) (by omega) (by omega) (by omega) (by omega)
  have h3 := mul_range (a := k) (b := leftOf u j + rightOf u n j) (A := 1000) (B := 2000000000) (by omega) (by omega) (by omega) (by omega) (by omega)
  unfold resAt
  omega⟩
theorem eTo_one (r : List Int) (K : Int) (h : Nat) : eTo r K h 1 = relTo (List.replicate h 0) r K h h := rfl
theorem eTo_two (r : List Int) (K : Int) (h : Nat) : eTo r K h 2 = relTo (eTo r K h 1) r K h h := rfl

set_option maxRecDepth 100000 in
set_option maxHeartbeats 8000000 in
theorem spec_Cycle (A : Option Addr) (n c : Nat) (u : List Int) (B : Option Addr) (m d : Nat) (f : List Int) (k : Int) (w : World) (r : RI w A n u) (q : RI w B m f) :
    Calls Try.prog 17 #[.slice A n c, .slice B m d, .int .i64 k] w fun e w' => ∃ v, e = .returned v ∧ OI w' w.heap.size v (cycleL u f k).length (cycleL u f k) ∧ Bw w w' := by
  have hl := r.len
  have hl2 := q.len
  cases hs : sysOk u f k with
  | false =>
    rw [show cycleL u f k = [] by simp [cycleL, hs]]
    have HS := hid hs; clear hs hl hl2
    go_enter Try.func17, Try.ntmps17
    go_wp2_with fail
    refine (spec_SystemOk A n c u B m d f k _ r q).mono ?_
    rintro e w1 ⟨rfl, d1⟩
    have b := Bw.drawn d1
    clear d1
    rw [HS.out]
    go_wp2
    go_ret
    exact ⟨_, rfl, (OI.lit0 w1 w1.heap.size (Nat.le_refl _)).base b.size, b.alloc _⟩
  | true =>
    obtain ⟨f1, f2, hu, hf, hk0, hk1⟩ := sysOk_facts hs
    rw [show cycleL u f k = cycL u f k n by simp [cycleL, hs, hl], cycL_length u f k n hl]
    obtain rfl : n = m := by omega
    rw [hl] at f2
    have hx := relTo_bd u f k n 1000000000 (by omega) hu hf (by omega) (by omega) hk0 n (Nat.le_refl _)
    have hxl : (relTo u f k n n).length = n := by rw [relTo_length, hl]
    have HC := hid (show cycL u f k n = relTo (cycX (relTo u f k n n) f k n) f k n n from rfl)
    have HS := hid hs; clear hs f1
    have HU := hid hu
    have HF := hid hf
    have HLF := hid hl2
    clear hu hf hl hl2
    obtain ⟨R, HR⟩ : ∃ R, Hid (R = cycL u f k n) := ⟨_, hid rfl⟩
    rw [← HR.out]
    go_enter Try.func17, Try.ntmps17
    go_wp2_with fail
    refine (spec_SystemOk A n c u B n d f k _ r q).mono ?_
    rintro e w1 ⟨rfl, d1⟩
    have b := Bw.drawn d1
    clear d1
    rw [HS.out]
    go_wp2_with fail
    refine (spec_relaxOk A n c u B d f k _ (r.to b) (q.to b) f2 HU.out HF.out ⟨hk0, hk1⟩).mono ?_
    rintro e w2 ⟨v, rfl, o, b2⟩
    replace b := b.trans b2
    obtain ⟨A0, c0, rfl, r0⟩ := o.reads
    have HX := hid hx
    have HXL := hid hxl
    clear b2 hx hxl
    generalize relTo u f k n n = x at *
    go_wp2_with fail
    refine (spec_clampId A0 n c0 x _ r0 f2.2 HX.out).mono ?_
    rintro e w3 ⟨v, rfl, o3, b3⟩
    obtain ⟨A1, c1, rfl, r1⟩ := o3.reads
    replace b := b.trans b3
    have q1 := q.to b
    clear o r0 b3 o3
    have HXB := hid (cycX_bd x f k n HX.out)
    by_cases h2 : 2 ≤ n
    · have t2 : decide ((n : Int) ≥ 2) = true := decide_eq_true (by omega)
      have HY := hid (show cycX x f k n = if absMost (resTo (corrL x f k n) f k n n) n ≤ absMost (resTo x f k n n) n then corrL x f k n else x by unfold cycX; rw [if_pos h2])
      obtain ⟨h, hh⟩ : ∃ h, (n + 1) / 2 = h := ⟨_, rfl⟩
      obtain ⟨K, hK⟩ : ∃ K, k / 4 = K := ⟨_, rfl⟩
      have hhb : 1 ≤ h ∧ h ≤ 64 := by omega
      have td : Int.tdiv k 4 = K := by rw [tdiv4 k hk0, hK]
      have hK0 : 0 ≤ K := by omega
      have hK1 : K ≤ 1000 := by omega
      have wK : wrap64 K = K := w64 (by omega) (by omega)
      have HYB2 : Hid (Bd (corrL x f k n) 1000000000) := hid (sumTo_bd _ _ _)
      have HYC := hid (show corrL x f k n = sumTo x (fineTo (eTo (clTo (coTo (resTo x f k n n) n h) h) K h 2) n) n by unfold corrL rightC; rw [hh, hK])
      have hres := hid (res_bd13 x f k n HX.out HF.out (by rw [HXL.out]; exact Nat.le_refl _) (by rw [HLF.out]; exact Nat.le_refl _) hk0 hk1)
      have HH := hid hh
      have HKK := hid hK
      clear hK
      generalize HYy : corrL x f k n = y at *
      clear HYy
      go_wp2_with fail
      refine (spec_residualOk A1 n c1 x B d f k _ r1 q1 f2 HX.out HF.out ⟨hk0, hk1⟩).mono ?_
      rintro e w4 ⟨v, rfl, o4, b4⟩
      obtain ⟨A2, c2, rfl, r2⟩ := o4.reads
      have hcap := o4.cap
      replace b := b.trans b4
      replace q1 := q1.to b4
      replace r1 := r1.to b4
      clear o4 b4
      obtain ⟨L, hL⟩ : ∃ L, resTo x f k n n = L := ⟨_, rfl⟩
      rw [hL] at HYC hres r2
      go_wp2_with fail
      refine (spec_coarseOk A2 n c2 L _ r2 hcap f2 hres.out).mono ?_
      rintro e w5 ⟨v, rfl, o5, b5⟩
      rw [hh] at o5
      obtain ⟨A3, c3, rfl, r3⟩ := o5.reads
      replace b := b.trans b5
      replace q1 := q1.to b5
      replace r1 := r1.to b5
      clear o5 b5 r2
      generalize coTo L n h = M at *
      go_wp2_with fail
      refine (spec_l21Clamp A3 h c3 M _ r3 (by omega)).mono ?_
      rintro e w6 ⟨v, rfl, o6, b6⟩
      obtain ⟨A4, c4, rfl, r4⟩ := o6.reads
      have hZb := clTo_bd M h
      have hZl := clTo_length M h
      generalize clTo M h = Z at *
      have HZ := hid hZb
      have HE := hid (fun i => eTo_bd Z K h hZb hZl hK0 i)
      replace b := b.trans b6
      replace q1 := q1.to b6
      replace r1 := r1.to b6
      clear o6 b6 r3 hh hZb hZl
      have hmk := print_make (P := Try.prog) 24 3 .i64 8 Try.underlying24 info_int (by omega) h (by omega)
      have oZ : OI (w6.alloc (.cells (madeCells #[.int .i64 0] h) 3)) w6.heap.size (.slice (some ⟨w6.heap.size, 0, none⟩) h h) h (List.replicate h 0) := ⟨own_made w6 w6.heap.size 3 .i64 h (Nat.le_refl _) (by omega)⟩
      have bZ : Bw w6 (w6.alloc (.cells (madeCells #[.int .i64 0] h) 3)) := (Bw.refl w6).alloc _
      replace b := b.trans bZ
      replace q1 := q1.to bZ
      replace r1 := r1.to bZ
      replace r4 := r4.to bZ
      have rZ := oZ.ri
      clear oZ bZ
      go_wp2_with fail
      clear hmk
      generalize w6.alloc (.cells (madeCells #[.int .i64 0] h) 3) = w6' at *
      refine (spec_relaxOk _ h h (List.replicate h 0) A4 c4 Z K _ rZ r4 hhb (HE.out 0) HZ.out ⟨hK0, hK1⟩).mono ?_
      rintro e w7 ⟨v, rfl, o7, b7⟩
      rw [← eTo_one] at o7
      obtain ⟨A5, c5, rfl, r5⟩ := o7.reads
      replace b := b.trans b7
      replace q1 := q1.to b7
      replace r1 := r1.to b7
      replace r4 := r4.to b7
      clear o7 b7 rZ
      go_wp2_with fail
      refine (spec_clampId A5 h c5 _ _ r5 hhb.2 (HE.out 1)).mono ?_
      rintro e w8 ⟨v, rfl, o8, b8⟩
      obtain ⟨A6, c6, rfl, r6⟩ := o8.reads
      replace b := b.trans b8
      replace q1 := q1.to b8
      replace r1 := r1.to b8
      replace r4 := r4.to b8
      clear o8 b8 r5
      go_wp2_with fail
      refine (spec_relaxOk A6 h c6 _ A4 c4 Z K _ r6 r4 hhb (HE.out 1) HZ.out ⟨hK0, hK1⟩).mono ?_
      rintro e w9 ⟨v, rfl, o9, b9⟩
      rw [← eTo_two] at o9
      obtain ⟨A7, c7, rfl, r7⟩ := o9.reads
      replace b := b.trans b9
      replace q1 := q1.to b9
      replace r1 := r1.to b9
      clear o9 b9 r6 r4
      go_wp2_with fail
      refine (spec_clampId A7 h c7 _ _ r7 hhb.2 (HE.out 2)).mono ?_
      rintro e w10 ⟨v, rfl, o10, b10⟩
      obtain ⟨A8, c8, rfl, r8⟩ := o10.reads
      replace b := b.trans b10
      replace q1 := q1.to b10
      replace r1 := r1.to b10
      clear o10 b10 r7
      have HEL := hid (eTo_length Z K h 2)
      have HE2 := hid (HE.out 2)
      clear HE HZ
      generalize eTo Z K h 2 = E at *
      go_wp2_with fail
      refine (spec_FinePart A8 h c8 n E _ r8 (by omega) HH.out.symm).mono ?_
      rintro e w11 ⟨v, rfl, o11, b11⟩
      obtain ⟨A9, c9, rfl, r9⟩ := o11.reads
      have HGB := hid (fine_bd E n HE2.out (by rw [HEL.out, HH.out]; exact Nat.le_refl _))
      have HGL := hid (fineTo_length E n)
      generalize fineTo E n = G at *
      replace b := b.trans b11
      replace q1 := q1.to b11
      replace r1 := r1.to b11
      clear o11 b11 r8
      have HN := hid (sumTo_length x G)
      have HSN := hid (sumTo_snoc x G)
      have o0 := OI.lit0 w11 w11.heap.size (Nat.le_refl _)
      have b0 : Bw w11 (w11.alloc (.cells #[] 3)) := (Bw.refl w11).alloc _
      have HXR := hid (show ∀ j : Nat, j < n → -1000000000 ≤ rd x (j : Int) ∧ rd x (j : Int) ≤ 1000000000 from fun j hj => HX.out.out j (by rw [HXL.out]; exact hj))
      have HGR := hid (show ∀ j : Nat, j < n → -1000000000 ≤ rd G (j : Int) ∧ rd G (j : Int) ≤ 1000000000 from fun j hj => HGB.out.out j (by rw [HGL.out]; exact hj))
      clear hcap hres hL HGB HGL HEL HE2
      go_wp2
      go_loopw [10, 11] (fun v iv wr => ∃ i : Nat, i ≤ n ∧ iv = .int .i64 i ∧ OI wr w11.heap.size v (sumTo x G i).length (sumTo x G i) ∧ Bw w11 wr) (fun _ iv _ => n - (intOf iv).toNat)
      case atStart => exact ⟨0, by omega, rfl, o0, b0⟩
      case round =>
        obtain ⟨i, hi, rfl, hO, hB⟩ := hrel
        by_cases hlt : i < n
        · have t1 : decide ((i : Int) < (n : Int)) = true := decide_eq_true (by omega)
          obtain ⟨ad, rfl, hc⟩ := (r1.to hB).nat i hlt
          obtain ⟨ae, rfl, hc2⟩ := (r9.to hB).nat i hlt
          have ha := HXR.out i hlt
          have hb := HGR.out i hlt
          have hnext := hid (HSN.out i)
          generalize rd x (i : Int) = a at *
          generalize rd G (i : Int) = b' at *
          have e1 : wrap64 (a + b') = a + b' := w64 (by omega) (by omega)
          obtain ⟨s, hs⟩ : ∃ s, a + b' = s := ⟨_, rfl⟩
          rw [hs] at hnext
          replace e1 := e1.trans hs
          clear hs ha hb
          obtain ⟨z, hz⟩ : ∃ z, cl s = z := ⟨_, rfl⟩
          rw [hz] at hnext
          have i0 : (0 : Int) ≤ (i : Int) := by omega
          have i1 : (i : Int) < (n : Int) := by omega
          go_wp2
          refine start_ (n := 14) (S := fun w' => w'.cell? (ad.add i) = some (.int .i64 a) ∧ w'.cell? (ae.add i) = some (.int .i64 b')) (ds := [10, 11, 12, 13]) #[false, false, false, false, false, false, false, false, false, false, false, false, false, false] (by kernel_rfl) rfl rfl ⟨hc, hc2⟩ (fun hHeld => ?_)
          refine pure_ (i := 0) (N := (some 56)) (v := ?_) (a' := ?_) #[true, false, false, false, false, false, false, false, false, false, false, false, false, false] rfl rfl (by kernel_rfl) (fun _ _ _ h => h) (Or.inl ⟨by rfl, ?_⟩) ?_ ?_
          rotate_left
          · intro w'
            go_simp
            with_reducible rfl
          rotate_left
          · simp only [Act.put, List.setIfInBounds_toArray, List.set_cons_zero, List.set_cons_succ, i64_w, i32_w]
            rfl
          refine pure_ (i := 1) (N := (some 57)) (v := ?_) (a' := ?_) #[true, true, false, false, false, false, false, false, false, false, false, false, false, false] rfl rfl (by kernel_rfl) (fun _ _ _ h => h) (Or.inl ⟨by rfl, ?_⟩) ?_ ?_
          rotate_left
          · intro w'
            go_simp
            with_reducible rfl
          rotate_left
          · simp only [Act.put, List.setIfInBounds_toArray, List.set_cons_zero, List.set_cons_succ, i64_w, i32_w]
            rfl
          refine pure_ (i := 2) (N := (some 58)) (v := ?_) (a' := ?_) #[true, true, true, false, false, false, false, false, false, false, false, false, false, false] rfl rfl (by kernel_rfl) (fun _ _ _ h => h) (Or.inl ⟨by rfl, ?_⟩) ?_ ?_
          rotate_left
          · intro w'
            go_simp
            with_reducible rfl
          rotate_left
          · simp only [Act.put, List.setIfInBounds_toArray, List.set_cons_zero, List.set_cons_succ, i64_w, i32_w]
            rfl
          refine pure_ (i := 3) (N := (some 59)) (v := ?_) (a' := ?_) #[true, true, true, true, false, false, false, false, false, false, false, false, false, false] rfl rfl (by kernel_rfl) (fun _ _ _ h => h) (Or.inl ⟨by rfl, ?_⟩) ?_ ?_
          rotate_left
          · intro w'
            go_simp
            with_reducible rfl
          rotate_left
          · simp only [Act.put, List.setIfInBounds_toArray, List.set_cons_zero, List.set_cons_succ, i64_w, i32_w]
            rfl
          refine take_ (i := 4) (N := (some 60)) (v := ?_) (a' := ?_) #[true, true, true, true, true, false, false, false, false, false, false, false, false, false] rfl rfl (by kernel_rfl) (fun _ _ _ h => h) (Or.inl ⟨by rfl, ?_⟩) hHeld ?_ ?_
          rotate_left
          · rintro w' ⟨s0, s1⟩
            go_simp
            with_reducible rfl
          rotate_left
          · simp only [Act.put, List.setIfInBounds_toArray, List.set_cons_zero, List.set_cons_succ, i64_w, i32_w]
            rfl
          refine pure_ (i := 5) (N := (some 61)) (v := ?_) (a' := ?_) #[true, true, true, true, true, true, false, false, false, false, false, false, false, false] rfl rfl (by kernel_rfl) (fun _ _ _ h => h) (Or.inl ⟨by rfl, ?_⟩) ?_ ?_
          rotate_left
          · intro w'
            go_simp
            with_reducible rfl
          rotate_left
          · simp only [Act.put, List.setIfInBounds_toArray, List.set_cons_zero, List.set_cons_succ, i64_w, i32_w]
            rfl
          refine pure_ (i := 6) (N := (some 62)) (v := ?_) (a' := ?_) #[true, true, true, true, true, true, true, false, false, false, false, false, false, false] rfl rfl (by kernel_rfl) (fun _ _ _ h => h) (Or.inl ⟨by rfl, ?_⟩) ?_ ?_
          rotate_left
          · intro w'
            go_simp
            with_reducible rfl
          rotate_left
          · simp only [Act.put, List.setIfInBounds_toArray, List.set_cons_zero, List.set_cons_succ, i64_w, i32_w]
            rfl
          refine pure_ (i := 7) (N := (some 63)) (v := ?_) (a' := ?_) #[true, true, true, true, true, true, true, true, false, false, false, false, false, false] rfl rfl (by kernel_rfl) (fun _ _ _ h => h) (Or.inl ⟨by rfl, ?_⟩) ?_ ?_
          rotate_left
          · intro w'
            go_simp
            with_reducible rfl
          rotate_left
          · simp only [Act.put, List.setIfInBounds_toArray, List.set_cons_zero, List.set_cons_succ, i64_w, i32_w]
            rfl
          refine take_ (i := 8) (N := (some 64)) (v := ?_) (a' := ?_) #[true, true, true, true, true, true, true, true, true, false, false, false, false, false] rfl rfl (by kernel_rfl) (fun _ _ _ h => h) (Or.inl ⟨by rfl, ?_⟩) hHeld ?_ ?_
          rotate_left
          · rintro w' ⟨s0, s1⟩
            go_simp
            with_reducible rfl
          rotate_left
          · simp only [Act.put, List.setIfInBounds_toArray, List.set_cons_zero, List.set_cons_succ, i64_w, i32_w]
            rfl
          refine pure_ (i := 9) (N := (some 65)) (v := ?_) (a' := ?_) #[true, true, true, true, true, true, true, true, true, true, false, false, false, false] rfl rfl (by kernel_rfl) (fun _ _ _ h => h) (Or.inl ⟨by rfl, ?_⟩) ?_ ?_
          rotate_left
          · intro w'
            go_simp
            with_reducible rfl
          rotate_left
          · simp only [Act.put, List.setIfInBounds_toArray, List.set_cons_zero, List.set_cons_succ, i64_w, i32_w]
            rfl
          refine last_ (i := 10) (N := (some 66)) #[true, true, true, true, true, true, true, true, true, true, true, false, false, false] rfl rfl (by kernel_rfl) (by decide) (fun K hK => ?_)
          refine goes_ Try.func42 (by kernel_rfl) rfl #[.int .i64 (wrap64 (a + b')), .int .i64 (-1000000000), .int .i64 1000000000] (by rfl) rfl rfl (by (try simp only [List.map_toArray, List.map_cons, List.map_nil]); first | done | rfl) ?_
          rw [e1]
          refine (spec_Clamp s _).mono ?_
          rintro e w8 ⟨rfl, rfl⟩
          rw [hz]
          refine ⟨_, rfl, ?_⟩
          refine hK.out _ _ ?_
          clear hK K
          refine norm_ (a' := ?_) ?_ ?_
          rotate_left
          · show Act.put _ (some 66) _ = _
            simp only [Act.put, List.setIfInBounds_toArray, List.set_cons_zero, List.set_cons_succ, i64_w, i32_w]
            rfl
          refine last_ (i := 11) (N := (some 67)) #[true, true, true, true, true, true, true, true, true, true, true, true, false, false] rfl rfl (by kernel_rfl) (by decide) (fun K hK => ?_)
          refine value_ (w1 := ?_) (v := ?_) (by rfl) rfl ?_ ?_
          rotate_left 2
          · go_simp
            constructor
            · rfl
            · rfl
          refine hK.out _ _ ?_
          clear hK K
          refine norm_ (a' := ?_) ?_ ?_
          rotate_left
          · show Act.put _ (some 67) _ = _
            simp only [Act.put, List.setIfInBounds_toArray, List.set_cons_zero, List.set_cons_succ, i64_w, i32_w]
            rfl
          refine last_ (i := 12) (N := (some 68)) #[true, true, true, true, true, true, true, true, true, true, true, true, true, false] rfl rfl (by kernel_rfl) (by decide) (fun K hK => ?_)
          refine step_append_cells (w0 := w11) w11.heap.size (by rfl) (.tmp 56) (.tmp 67) 24 3 (.int .i64 0) 1 8 rfl Try.underlying24 info_int rfl (by decide) (by decide) u10 (sumTo x G i).length (nums .i64 (sumTo x G i)) [.int .i64 z] rfl rfl rfl (by simp [Value.oneCell']) (hO.to (Bw.drawn ⟨⟨1, rfl⟩⟩)).out (hB.trans (Bw.drawn ⟨⟨1, rfl⟩⟩)).out (hB.trans (Bw.drawn ⟨⟨1, rfl⟩⟩)).size (by rw [HN.out]; omega) ?_
          intro v1 wz hown1 hB1 hg1 _
          refine hK.out _ _ ?_
          clear hK K
          refine norm_ (a' := ?_) ?_ ?_
          rotate_left
          · show Act.put _ (some 68) _ = _
            simp only [Act.put, List.setIfInBounds_toArray, List.set_cons_zero, List.set_cons_succ, i64_w, i32_w]
            rfl
          have hO9 : OI wz w11.heap.size v1 ((sumTo x G i).length + 1) (sumTo x G i ++ [z]) := OI.one hown1
          have hB9 : Bw w11 wz := ⟨hB1⟩
          refine last_ (i := 13) (N := (some 10)) #[true, true, true, true, true, true, true, true, true, true, true, true, true, true] rfl rfl (by kernel_rfl) (by decide) (fun K hK => ?_)
          refine value_ (w1 := ?_) (v := ?_) (by rfl) rfl ?_ ?_
          rotate_left 2
          · go_simp
            constructor
            · rfl
            · rfl
          refine hK.out _ _ ?_
          clear hK K
          refine norm_ (a' := ?_) ?_ ?_
          rotate_left
          · show Act.put _ (some 10) _ = _
            simp only [Act.put, List.setIfInBounds_toArray, List.set_cons_zero, List.set_cons_succ, i64_w, i32_w]
            rfl
          refine done_ (by kernel_rfl) ?_
          clear e1
          go_wp2
          go_roundw
          case rel => exact ⟨i + 1, by omega, by go_num, by rw [hnext.out, List.length_append]; exact hO9, hB9⟩
          case measure => simp [intOf]; omega
        · obtain rfl : i = n := by omega
          have t1 : decide ((i : Int) < (i : Int)) = false := decide_eq_false (by omega)
          rw [HN.out, ← HYC.out] at hO
          obtain ⟨Ay, cy, rfl, ry⟩ := hO.reads
          replace b := b.trans hB
          replace q1 := q1.to hB
          replace r1 := r1.to hB
          have HYBl := hid (show y.length = i by rw [HYC.out, HN.out])
          have HXl := hid HXL.out
          clear hO hB HXR HGR HSN HN
          go_wp2_with fail
          refine (spec_errOk Ay i cy y B d f k _ ry q1 f2 HYB2.out HF.out ⟨hk0, hk1⟩).mono ?_
          rintro e w13 ⟨rfl, b13⟩
          replace b := b.trans b13
          replace q1 := q1.to b13
          replace r1 := r1.to b13
          replace ry := ry.to b13
          clear b13
          go_wp2_with fail
          refine (spec_errOk A1 i c1 x B d f k _ r1 q1 f2 HX.out HF.out ⟨hk0, hk1⟩).mono ?_
          rintro e w14 ⟨rfl, b14⟩
          replace b := b.trans b14
          replace q1 := q1.to b14
          replace r1 := r1.to b14
          replace ry := ry.to b14
          clear b14
          generalize absMost (resTo y f k i i) i = ey at *
          generalize absMost (resTo x f k i i) i = ex at *
          by_cases he : ey ≤ ex
          · have t3 : decide (ey ≤ ex) = true := decide_eq_true he
            have E1 := hid (show cycX x f k i = y by rw [HY.out, if_pos he])
            have HYBB := hid HYB2.out
            have HYBBl := hid HYBl.out
            clear he HXB
            go_wp2_with fail
            refine (spec_relaxOk Ay i cy y B d f k _ ry q1 f2 HYBB.out HF.out ⟨hk0, hk1⟩).mono ?_
            rintro e wa ⟨v, rfl, oA, bA⟩
            obtain ⟨Aa, ca, rfl, ra⟩ := oA.reads
            have HB2 := hid (relTo_bd y f k i 1000000000 (by omega) HYBB.out HF.out (by rw [HYBBl.out]; exact Nat.le_refl _) (by rw [HLF.out]; exact Nat.le_refl _) hk0 i (Nat.le_refl _))
            go_wp2_with fail
            refine (spec_clampId Aa i ca _ _ ra f2.2 HB2.out).mono ?_
            rintro e wb ⟨v, rfl, oB, bB⟩
            go_wp2
            go_ret
            exact ⟨_, rfl, by rw [HR.out, HC.out, E1.out]; exact oB.base (b.trans bA).size, (b.trans bA).trans bB⟩
          · have t3 : decide (ey ≤ ex) = false := decide_eq_false he
            have E1 := hid (show cycX x f k i = x by rw [HY.out, if_neg he])
            clear he HXB
            go_wp2_with fail
            refine (spec_relaxOk A1 i c1 x B d f k _ r1 q1 f2 HX.out HF.out ⟨hk0, hk1⟩).mono ?_
            rintro e wa ⟨v, rfl, oA, bA⟩
            obtain ⟨Aa, ca, rfl, ra⟩ := oA.reads
            have HB2 := hid (relTo_bd x f k i 1000000000 (by omega) HX.out HF.out (by rw [HXl.out]; exact Nat.le_refl _) (by rw [HLF.out]; exact Nat.le_refl _) hk0 i (Nat.le_refl _))
            go_wp2_with fail
            refine (spec_clampId Aa i ca _ _ ra f2.2 HB2.out).mono ?_
            rintro e wb ⟨v, rfl, oB, bB⟩
            go_wp2
            go_ret
            exact ⟨_, rfl, by rw [HR.out, HC.out, E1.out]; exact oB.base (b.trans bA).size, (b.trans bA).trans bB⟩
    · have t2 : decide ((n : Int) ≥ 2) = false := decide_eq_false (by omega)
      have E1 := hid (show cycX x f k n = x by unfold cycX; rw [if_neg h2])
      have HXl := hid HXL.out
      clear HXB h2
      go_wp2_with fail
      refine (spec_relaxOk A1 n c1 x B d f k _ r1 q1 f2 HX.out HF.out ⟨hk0, hk1⟩).mono ?_
      rintro e wa ⟨v, rfl, oA, bA⟩
      obtain ⟨Aa, ca, rfl, ra⟩ := oA.reads
      have HB2 := hid (relTo_bd x f k n 1000000000 (by omega) HX.out HF.out (by rw [HXl.out]; exact Nat.le_refl _) (by rw [HLF.out]; exact Nat.le_refl _) hk0 n (Nat.le_refl _))
      go_wp2_with fail
      refine (spec_clampId Aa n ca _ _ ra f2.2 HB2.out).mono ?_
      rintro e wb ⟨v, rfl, oB, bB⟩
      go_wp2
      go_ret
      exact ⟨_, rfl, by rw [HR.out, HC.out, E1.out]; exact oB.base (b.trans bA).size, (b.trans bA).trans bB⟩
end Go.Proofs.Ytpnciejalcdgeaa.U
