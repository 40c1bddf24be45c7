
/- (*State).refine. -/
import Derived.Test.YtaidbdogolhnjaaYc
set_option linter.unusedVariables false
set_option linter.unusedSimpArgs false
namespace Go.Proofs.Ytaidbdogolhnjaa.U
open Go.RowKit Go.Lib Go.Proofs.YtaidbdogolhnjaaW.PrintWords

open Go.Proofs.YtaidbdogolhnjaaW.PrintLast Go.Proofs.YtaidbdogolhnjaaW.PrintMore
theorem impl_SplitEven (m : Int) (w : World) (hm : 0 ≤ m ∧ m ≤ 10000000) :
    Calls Try.prog 57 #[.int .i64 m] w fun e w' => e = .returned (.tuple #[.int .i64 (m - Int.tdiv m 2), .int .i64 (Int.tdiv m 2)]) ∧ w = w' := by
  have h := tdiv_wide (a := m) (b := 2) (by omega) (by omega)
  have h2 : Int.tdiv m 2 ≤ m := by
    rw [Int.tdiv_eq_ediv_of_nonneg hm.1]
    exact Int.ediv_le_self _ hm.1
  have t1 : decide (m < 0) = false := decide_eq_false (by omega)
  have e0 : IntKind.i64.wrap (Int.tdiv m 2) = Int.tdiv m 2 := i64w (by omega) (by omega)
  have e1 : IntKind.i64.wrap (m - Int.tdiv m 2) = m - Int.tdiv m 2 := by clear e0; exact i64w (by omega) (by omega)
  clear h h2
  go_enter Try.func57, Try.ntmps57
  go_wp2
  exact bodyPost_ret (results_tmp2 rfl _ _ _) rfl ⟨rfl, rfl⟩
theorem impl_ShareAny (tr r m : Int) (w : World) (hm : 0 ≤ m ∧ m ≤ 10000000) (ht : 0 ≤ tr ∧ tr ≤ 1000 * m) (hr : 0 ≤ r ∧ r ≤ m) :
    Calls Try.prog 58 #[.int .i64 tr, .int .i64 r, .int .i64 m] w fun e w' => e = .returned (.int .i64 (outA tr m r)) ∧ w = w' := by
  by_cases h0 : m = 0
  · subst h0
    have H1 := hid (show inR 0 1 10000000 = false from by decide)
    rw [show outA tr 0 r = 0 from by rw [outA, if_pos rfl]]
    go_enter Try.func58, Try.ntmps58
    go_wp2_with fail
    refine (toBool (within _ _ _ _) H1.out).mono ?_
    rintro e w1 ⟨rfl, rfl⟩
    go_wp2
    go_ret
    exact ⟨rfl, rfl⟩
  · rw [outA, if_neg h0]
    exact impl_ShareOut tr r m w ⟨by omega, hm.2⟩ ht hr
def refM (l : List Int) (i : Nat) (a b : Int) : List Int := l.take i ++ [a, b] ++ l.drop (i + 1)
theorem refM_length {l : List Int} {i : Nat} {a b : Int} (h : i < l.length) : (refM l i a b).length = l.length + 1 := by
  rw [refM]
  simp only [List.length_append, List.length_take, List.length_drop, List.length_cons, List.length_nil]
  omega
/-- a state with one leaf refined -/
def refS (s : Sta) (i : Nat) : Sta :=
  ⟨s.ro, splitC s.lv i, refM s.ms i (rd s.ms (i : Int) - Int.tdiv (rd s.ms (i : Int)) 2) (Int.tdiv (rd s.ms (i : Int)) 2),
    refM s.ts i (outA (rd s.ts (i : Int)) (rd s.ms (i : Int)) (rd s.ms (i : Int) - Int.tdiv (rd s.ms (i : Int)) 2)) (rd s.ts (i : Int) - outA (rd s.ts (i : Int)) (rd s.ms (i : Int)) (rd s.ms (i : Int) - Int.tdiv (rd s.ms (i : Int)) 2)), s.bd⟩
theorem half_range {m : Int} (h : 0 ≤ m) : 0 ≤ Int.tdiv m 2 ∧ Int.tdiv m 2 ≤ m - Int.tdiv m 2 ∧ m - Int.tdiv m 2 ≤ Int.tdiv m 2 + 1 := by
  rw [Int.tdiv_eq_ediv_of_nonneg h]
  omega
theorem outA_range {t m r : Int} (hm : 0 ≤ m) (ht : 0 ≤ t ∧ t ≤ 1000 * m) (hr : 0 ≤ r ∧ r ≤ m) : 0 ≤ outA t m r ∧ outA t m r ≤ t ∧ outA t m r ≤ 1000 * r ∧ t - outA t m r ≤ 1000 * (m - r) := by
  unfold outA
  split
  · rename_i h0
    subst h0
    omega
  · rename_i h0
    have hmp : 0 < m := by omega
    have hnn : 0 ≤ t * r := Int.mul_nonneg ht.1 hr.1
    rw [Int.tdiv_eq_ediv_of_nonneg hnn]
    have h1 : 0 ≤ t * r / m := Int.ediv_nonneg hnn (by omega)
    have h2 : t * r / m ≤ t := by
      rw [Int.ediv_le_iff_le_mul hmp] <;> have := Int.mul_le_mul_of_nonneg_left hr.2 ht.1 <;> omega
    have h3 : t * r / m ≤ 1000 * r := by
      have h4 : t * r ≤ 1000 * m * r := Int.mul_le_mul_of_nonneg_right ht.2 hr.1
      have h5 : 1000 * m * r = 1000 * r * m := by rw [Int.mul_assoc, Int.mul_comm m r, ← Int.mul_assoc]
      rw [Int.ediv_le_iff_le_mul hmp]
      omega
    refine ⟨h1, h2, h3, ?_⟩
    have h6 : (t - 1000 * (m - r)) * m ≤ t * r := by
      have h7 : t * (m - r) ≤ 1000 * m * (m - r) := Int.mul_le_mul_of_nonneg_right ht.2 (by omega)
      have e1 : t * (m - r) = t * m - t * r := Int.mul_sub t m r
      have e2 : (t - 1000 * (m - r)) * m = t * m - 1000 * (m - r) * m := Int.sub_mul _ _ _
      have e3 : 1000 * (m - r) * m = 1000 * m * (m - r) := by rw [Int.mul_assoc, Int.mul_comm (m - r) m, ← Int.mul_assoc]
      omega
    have h8 := (Int.le_ediv_iff_mul_le hmp).2 h6
    omega

set_option maxHeartbeats 8000000 in
set_option maxRecDepth 100000 in
theorem impl_Srefine (Kp : Nat → Prop) (P : Nat) (s : Sta) (vl vm vt vb : Value) (i : Nat) (w : World) (h : BS w Kp P s vl vm vt vb) (hi : i < s.lv.length) (hms : s.ms.length = s.lv.length) (hts : s.ts.length = s.lv.length) (hn : s.lv.length ≤ 1000) (hx : ceOk (gc s.lv i) = true)
    (hm : 0 ≤ rd s.ms (i : Int) ∧ rd s.ms (i : Int) ≤ 10000000) (ht : 0 ≤ rd s.ts (i : Int) ∧ rd s.ts (i : Int) ≤ 1000 * rd s.ms (i : Int)) :
    Calls Try.prog 30 #[.pointer (some ⟨P, 0, none⟩), .int .i64 i] w fun e w' => ∃ u vl' vm' vt', e = .returned u ∧ BS w' Kp P (refS s i) vl' vm' vt' vb ∧ Fk w w' Kp := by
  obtain ⟨n, hN⟩ : ∃ n, s.lv.length = n := ⟨_, rfl⟩
  have HN := hid hN
  have HMS := hid (hms.trans hN)
  have HTS := hid (hts.trans hN)
  have HHI := hid hi
  have HHN := hid hn
  have hmo := h.m
  have hto := h.t
  rw [hms, hN] at hmo
  rw [hts, hN] at hto
  rw [hN] at hi hn
  have HI := hid hi
  have HN2 := hid (show n ≤ 1000000 by omega)
  obtain ⟨A2, c2, rfl, _, _⟩ := hmo.reads
  obtain ⟨A3, c3, rfl, _, _⟩ := hto.reads
  obtain ⟨a2, rfl, z2⟩ := (show RI w A2 n s.ms from (FO.fr hmo).ri).nat i hi
  obtain ⟨a3, rfl, z3⟩ := (show RI w A3 n s.ts from (FO.fr hto).ri).nat i hi
  have HHX := hid hx
  have k2 : w.cell? ⟨P, 2, none⟩ = some (.slice (some a2) n c2) := (blk_cell h.st 2).trans rfl
  have k3 : w.cell? ⟨P, 3, none⟩ = some (.slice (some a3) n c3) := (blk_cell h.st 3).trans rfl
  have i4 : (0 : Int) ≤ (i : Int) := by omega
  have i5 : (i : Int) < (n : Int) := by omega
  obtain ⟨m, hme⟩ : ∃ m, rd s.ms (i : Int) = m := ⟨_, rfl⟩
  obtain ⟨tr, htr⟩ : ∃ t, rd s.ts (i : Int) = t := ⟨_, rfl⟩
  rw [hme] at z2 hm ht
  rw [htr] at z3 ht
  obtain ⟨b, hb⟩ : ∃ b, Int.tdiv m 2 = b := ⟨_, rfl⟩
  have hhr := half_range hm.1
  rw [hb] at hhr
  obtain ⟨a, ha⟩ : ∃ a, m - b = a := ⟨_, rfl⟩
  obtain ⟨t1, ht1⟩ : ∃ t1, outA tr m a = t1 := ⟨_, rfl⟩
  have hor := outA_range hm.1 ht (r := a) (by omega)
  rw [ht1] at hor
  have HMM := hid hm
  have HTT := hid ht
  have HAA := hid (show 0 ≤ a ∧ a ≤ m by omega)
  have HRS := hid (show refS s i = ⟨s.ro, splitC s.lv i, refM s.ms i a b, refM s.ts i t1 (tr - t1), s.bd⟩ by rw [refS, hme, htr, hb, ha, ht1])
  have HT1 := hid ht1
  have HTR := hid htr
  have HB := hid hb
  have HA := hid ha
  have HH := hid h
  have e2 : IntKind.i64.wrap (tr - t1) = tr - t1 := i64w (by omega) (by omega)
  have e1 : IntKind.i64.wrap ((i : Int) + 1) = (i : Int) + 1 := by clear e2; exact i64w (by omega) (by omega)
  clear hmo hto hN hx hi hn hms hts h hme htr hb ha ht1 hhr hor hm ht
  go_enter Try.func30, Try.ntmps30
  go_wp2_with fail
  refine (impl_SplitEven m _ HMM.out).mono ?_
  rintro e w1 ⟨rfl, rfl⟩
  rw [HB.out, HA.out]
  go_upto_region 1 with fail
  go_quiet ((go_at_call 58; exact Calls.quiet_of_same ((impl_ShareAny tr a m _ HMM.out HTT.out HAA.out).mono fun e w' h => ⟨h.1, h.2.symm⟩)))
  rw [HT1.out]
  have bq : Bw w (w.drewN nq) := Bw.drawn ⟨⟨nq, rfl⟩⟩
  have HF1 := hid (Fk.bw bq HH.out.kw)
  have H1 := hid (HH.out.to bq)
  clear k2 k3 z2 z3 HH bq
  generalize w.drewN nq = W1 at *
  go_wp2_with fail
  refine (impl_Mrefine Kp P s vl (.slice (some a2) n c2) (.slice (some a3) n c3) vb i _ H1.out HHI.out HHN.out HHX.out).mono ?_
  rintro e w2 ⟨u, vl2, rfl, h2, f2⟩
  have HF2 := hid (HF1.out.trans f2)
  have bx := Bw.box1 w2 (.cells #[.int .i64 a, .int .i64 b] 3)
  have hv := heap_alloc_new w2 (.cells #[.int .i64 a, .int .i64 b] 3 (0, 0))
  have H3 := hid (h2.to bx)
  have HF3 := hid (HF2.out.trans (Fk.bw bx h2.kw))
  have hne : (Value.slice (some a2) n c2).ownBlock ≠ some w2.heap.size := fun e => by have := own_lt h2.m.out _ e; omega
  have k2 : w2.cell? ⟨P, 2, none⟩ = some (.slice (some a2) n c2) := (blk_cell h2.st 2).trans rfl
  have HV := hid hv
  have HNE := hid hne
  clear h2 f2 bx hv hne H1 HF1 HF2
  go_wp2_with fail
  generalize (w2.alloc (.cells #[.int .i64 a, .int .i64 b] 3)) = w3 at *
  refine (rep2_I 0 n i w2.heap.size (.slice (some a2) n c2) s.ms [a, b] w3 (by have := H3.out.m; simp only at this; rw [HMS.out] at this; exact this) (Nat.zero_le _) HI.out HN2.out HV.out rfl HNE.out).mono ?_
  rintro e w4 ⟨v4, rfl, ho, hg, hown⟩
  obtain ⟨A4, c4, rfl, _, _⟩ := FO.reads ho
  have hq4 := H3.out.put_m (l' := refM s.ms i a b) (by rw [refM_length (by rw [HMS.out]; exact HI.out), HMS.out]; exact ho) hg hown
  have hst := blk_grown H3.out.st hg (own_ne H3.out.m.out H3.out.st (by decide))
  have s2 := (blk_cell hst 2).trans (show _ = some (Value.slice (some a2) n c2) from rfl)
  have f2 := blk_frozen hst 2
  have h4 := hid hq4.1
  have HF4 := hid (HF3.out.trans hq4.2)
  have z3 : (w4.setCell ⟨P, 2, none⟩ (.slice A4 (n + 1) c4)).cell? (a3.add i) = some (.int .i64 tr) := by
    have hr := (FO.fr h4.out.t).ri
    simp only [HTS.out] at hr
    obtain ⟨_, e, hz⟩ := hr.nat i HI.out
    obtain rfl := Option.some.inj e
    rw [hz, HTR.out]
  have k3 : (w4.setCell ⟨P, 2, none⟩ (.slice A4 (n + 1) c4)).cell? ⟨P, 3, none⟩ = some (.slice (some a3) n c3) := (blk_cell h4.out.st 3).trans rfl
  clear ho hg hown hq4 hst H3 HF3 k2 HV HNE
  go_upto_region 4 with fail
  generalize (w4.setCell ⟨P, 2, none⟩ (.slice A4 (n + 1) c4)) = W4 at *
  clear s2 f2
  have bD := Bw.drawn (a := W4) ⟨⟨1, rfl⟩⟩
  refine start_ (n := 23) (S := fun w' => w'.cell? ⟨P, 3, none⟩ = some (.slice (some a3) n c3) ∧ w'.cell? (a3.add i) = some (.int .i64 tr)) (ds := [19, 22]) #[false, false, false, false, false, false, false, false, false, false, false, false, false, false, false, false, false, false, false, false, false, false, false] (by kernel_rfl) rfl rfl ⟨k3, z3⟩ (fun hHeld => ?_)
  refine pure_ (i := 0) (N := (some 53)) (v := ?_) (a' := ?_) #[true, false, false, false, false, false, false, false, false, false, false, false, false, false, false, false, false, false, false, false, false, false, false] rfl rfl (by kernel_rfl) (fun _ _ _ h => h) (Or.inl ⟨by rfl, ?_⟩) ?_ ?_
  rotate_left
  · intro w'
    go_simp
    with_reducible rfl
  rotate_left
  · simp only [Act.put, List.setIfInBounds_toArray, List.set_cons_zero, List.set_cons_succ, i64_w, i32_w]
    rfl
  refine pure_ (i := 1) (N := (some 54)) (v := ?_) (a' := ?_) #[true, true, false, false, false, false, false, false, false, false, false, false, false, false, false, false, false, false, false, false, false, false, false] rfl rfl (by kernel_rfl) (fun _ _ _ h => h) (Or.inl ⟨by rfl, ?_⟩) ?_ ?_
  rotate_left
  · intro w'
    go_simp
    with_reducible rfl
  rotate_left
  · simp only [Act.put, List.setIfInBounds_toArray, List.set_cons_zero, List.set_cons_succ, i64_w, i32_w]
    rfl
  refine pure_ (i := 2) (N := (some 55)) (v := ?_) (a' := ?_) #[true, true, true, false, false, false, false, false, false, false, false, false, false, false, false, false, false, false, false, false, false, false, false] rfl rfl (by kernel_rfl) (fun _ _ _ h => h) (Or.inl ⟨by rfl, ?_⟩) ?_ ?_
  rotate_left
  · intro w'
    go_simp
    with_reducible rfl
  rotate_left
  · simp only [Act.put, List.setIfInBounds_toArray, List.set_cons_zero, List.set_cons_succ, i64_w, i32_w]
    rfl
  refine pure_ (i := 3) (N := (some 56)) (v := ?_) (a' := ?_) #[true, true, true, true, false, false, false, false, false, false, false, false, false, false, false, false, false, false, false, false, false, false, false] rfl rfl (by kernel_rfl) (fun _ _ _ h => h) (Or.inl ⟨by rfl, ?_⟩) ?_ ?_
  rotate_left
  · intro w'
    go_simp
    with_reducible rfl
  rotate_left
  · simp only [Act.put, List.setIfInBounds_toArray, List.set_cons_zero, List.set_cons_succ, i64_w, i32_w]
    rfl
  refine take_ (i := 4) (N := (some 57)) (v := ?_) (a' := ?_) #[true, true, true, true, true, false, false, false, false, false, false, false, false, false, false, false, false, false, false, false, false, false, false] rfl rfl (by kernel_rfl) (fun _ _ _ h => h) (Or.inl ⟨by rfl, ?_⟩) hHeld ?_ ?_
  rotate_left
  · rintro w' ⟨s0, s1⟩
    go_simp
    with_reducible rfl
  rotate_left
  · simp only [Act.put, List.setIfInBounds_toArray, List.set_cons_zero, List.set_cons_succ, i64_w, i32_w]
    rfl
  refine pure_ (i := 5) (N := (some 58)) (v := ?_) (a' := ?_) #[true, true, true, true, true, true, false, false, false, false, false, false, false, false, false, false, false, false, false, false, false, false, false] rfl rfl (by kernel_rfl) (fun _ _ _ h => h) (Or.inl ⟨by rfl, ?_⟩) ?_ ?_
  rotate_left
  · intro w'
    go_simp
    with_reducible rfl
  rotate_left
  · simp only [Act.put, List.setIfInBounds_toArray, List.set_cons_zero, List.set_cons_succ, i64_w, i32_w]
    rfl
  refine pure_ (i := 6) (N := (some 59)) (v := ?_) (a' := ?_) #[true, true, true, true, true, true, true, false, false, false, false, false, false, false, false, false, false, false, false, false, false, false, false] rfl rfl (by kernel_rfl) (fun _ _ _ h => h) (Or.inl ⟨by rfl, ?_⟩) ?_ ?_
  rotate_left
  · intro w'
    go_simp
    with_reducible rfl
  rotate_left
  · simp only [Act.put, List.setIfInBounds_toArray, List.set_cons_zero, List.set_cons_succ, i64_w, i32_w]
    rfl
  refine pure_ (i := 7) (N := (some 60)) (v := ?_) (a' := ?_) #[true, true, true, true, true, true, true, true, false, false, false, false, false, false, false, false, false, false, false, false, false, false, false] rfl rfl (by kernel_rfl) (fun _ _ _ h => h) (Or.inl ⟨by rfl, ?_⟩) ?_ ?_
  rotate_left
  · intro w'
    go_simp
    with_reducible rfl
  rotate_left
  · simp only [Act.put, List.setIfInBounds_toArray, List.set_cons_zero, List.set_cons_succ, i64_w, i32_w]
    rfl
  refine pure_ (i := 8) (N := (some 61)) (v := ?_) (a' := ?_) #[true, true, true, true, true, true, true, true, true, false, false, false, false, false, false, false, false, false, false, false, false, false, false] rfl rfl (by kernel_rfl) (fun _ _ _ h => h) (Or.inl ⟨by rfl, ?_⟩) ?_ ?_
  rotate_left
  · intro w'
    go_simp
    with_reducible rfl
  rotate_left
  · simp only [Act.put, List.setIfInBounds_toArray, List.set_cons_zero, List.set_cons_succ, i64_w, i32_w]
    rfl
  refine pure_ (i := 9) (N := (some 62)) (v := ?_) (a' := ?_) #[true, true, true, true, true, true, true, true, true, true, false, false, false, false, false, false, false, false, false, false, false, false, false] rfl rfl (by kernel_rfl) (fun _ _ _ h => h) (Or.inl ⟨by rfl, ?_⟩) ?_ ?_
  rotate_left
  · intro w'
    go_simp
    with_reducible rfl
  rotate_left
  · simp only [Act.put, List.setIfInBounds_toArray, List.set_cons_zero, List.set_cons_succ, i64_w, i32_w]
    rfl
  refine pure_ (i := 10) (N := (some 63)) (v := ?_) (a' := ?_) #[true, true, true, true, true, true, true, true, true, true, true, false, false, false, false, false, false, false, false, false, false, false, false] rfl rfl (by kernel_rfl) (fun _ _ _ h => h) (Or.inl ⟨by rfl, ?_⟩) ?_ ?_
  rotate_left
  · intro w'
    go_simp
    with_reducible rfl
  rotate_left
  · simp only [Act.put, List.setIfInBounds_toArray, List.set_cons_zero, List.set_cons_succ, i64_w, i32_w]
    rfl
  refine pure_ (i := 11) (N := (some 64)) (v := ?_) (a' := ?_) #[true, true, true, true, true, true, true, true, true, true, true, true, false, false, false, false, false, false, false, false, false, false, false] rfl rfl (by kernel_rfl) (fun _ _ _ h => h) (Or.inl ⟨by rfl, ?_⟩) ?_ ?_
  rotate_left
  · intro w'
    go_simp
    with_reducible rfl
  rotate_left
  · simp only [Act.put, List.setIfInBounds_toArray, List.set_cons_zero, List.set_cons_succ, i64_w, i32_w]
    rfl
  refine take_ (i := 12) (N := (some 65)) (v := ?_) (a' := ?_) #[true, true, true, true, true, true, true, true, true, true, true, true, true, false, false, false, false, false, false, false, false, false, false] rfl rfl (by kernel_rfl) (fun _ _ _ h => h) (Or.inl ⟨by rfl, ?_⟩) hHeld ?_ ?_
  rotate_left
  · rintro w' ⟨s0, s1⟩
    go_simp
    with_reducible rfl
  rotate_left
  · simp only [Act.put, List.setIfInBounds_toArray, List.set_cons_zero, List.set_cons_succ, i64_w, i32_w]
    rfl
  refine pure_ (i := 13) (N := (some 66)) (v := ?_) (a' := ?_) #[true, true, true, true, true, true, true, true, true, true, true, true, true, true, false, false, false, false, false, false, false, false, false] rfl rfl (by kernel_rfl) (fun _ _ _ h => h) (Or.inl ⟨by rfl, ?_⟩) ?_ ?_
  rotate_left
  · intro w'
    go_simp
    with_reducible rfl
  rotate_left
  · simp only [Act.put, List.setIfInBounds_toArray, List.set_cons_zero, List.set_cons_succ, i64_w, i32_w]
    rfl
  refine pure_ (i := 14) (N := (some 67)) (v := ?_) (a' := ?_) #[true, true, true, true, true, true, true, true, true, true, true, true, true, true, true, false, false, false, false, false, false, false, false] rfl rfl (by kernel_rfl) (fun _ _ _ h => h) (Or.inl ⟨by rfl, ?_⟩) ?_ ?_
  rotate_left
  · intro w'
    go_simp
    with_reducible rfl
  rotate_left
  · simp only [Act.put, List.setIfInBounds_toArray, List.set_cons_zero, List.set_cons_succ, i64_w, i32_w]
    rfl
  refine take_ (i := 15) (N := (some 68)) (v := ?_) (a' := ?_) #[true, true, true, true, true, true, true, true, true, true, true, true, true, true, true, true, false, false, false, false, false, false, false] rfl rfl (by kernel_rfl) (fun _ _ _ h => h) (Or.inl ⟨by rfl, ?_⟩) hHeld ?_ ?_
  rotate_left
  · rintro w' ⟨s0, s1⟩
    go_simp
    with_reducible rfl
  rotate_left
  · simp only [Act.put, List.setIfInBounds_toArray, List.set_cons_zero, List.set_cons_succ, i64_w, i32_w]
    rfl
  refine pure_ (i := 16) (N := (some 69)) (v := ?_) (a' := ?_) #[true, true, true, true, true, true, true, true, true, true, true, true, true, true, true, true, true, false, false, false, false, false, false] rfl rfl (by kernel_rfl) (fun _ _ _ h => h) (Or.inl ⟨by rfl, ?_⟩) ?_ ?_
  rotate_left
  · intro w'
    go_simp
    with_reducible rfl
  rotate_left
  · simp only [Act.put, List.setIfInBounds_toArray, List.set_cons_zero, List.set_cons_succ, i64_w, i32_w]
    rfl
  refine pure_ (i := 17) (N := (some 70)) (v := ?_) (a' := ?_) #[true, true, true, true, true, true, true, true, true, true, true, true, true, true, true, true, true, true, false, false, false, false, false] rfl rfl (by kernel_rfl) (fun _ _ _ h => h) (Or.inl ⟨by rfl, ?_⟩) ?_ ?_
  rotate_left
  · intro w'
    go_simp
    with_reducible rfl
  rotate_left
  · simp only [Act.put, List.setIfInBounds_toArray, List.set_cons_zero, List.set_cons_succ, i64_w, i32_w]
    rfl
  have bC : Bw W4 ((W4.alloc (.cells #[.int .i64 t1, .int .i64 (tr - t1)] 3)).drew) := (Bw.box1 W4 (.cells #[.int .i64 t1, .int .i64 (tr - t1)] 3)).trans (Bw.drawn ⟨⟨1, rfl⟩⟩)
  have hv : ((W4.alloc (.cells #[.int .i64 t1, .int .i64 (tr - t1)] 3)).drew).heap[(W4.drewN 1).heap.size]? = some (.cells #[.int .i64 t1, .int .i64 (tr - t1)] 3 (0, 0)) := heap_alloc_new W4 (.cells #[.int .i64 t1, .int .i64 (tr - t1)] 3 (0, 0))
  refine one_ (i := 18) (N := (some 71)) #[true, true, true, true, true, true, true, true, true, true, true, true, true, true, true, true, true, true, true, false, false, false, false] rfl rfl (by kernel_rfl) (by decide) (fun K hK => ?_)
  refine value_ (w1 := ?_) (v := ?_) (by rfl) rfl ?_ ?_
  rotate_left 2
  · go_simp
    constructor
    · rfl
    · rfl
  refine hK.out _ _ ⟨pw_cell_below bC.out k3, pw_cell_below bC.out z3⟩ (fun hHeld => ?_)
  clear hK K
  refine norm_ (a' := ?_) ?_ ?_
  rotate_left
  · show Act.put _ (some 71) _ = _
    simp only [Act.put, List.setIfInBounds_toArray, List.set_cons_zero, List.set_cons_succ, i64_w, i32_w]
    rfl
  clear hHeld
  have h5 := h4.out.to bC
  have hne : (Value.slice (some a3) n c3).ownBlock ≠ some (W4.drewN 1).heap.size := fun e => by have := own_lt (h4.out.to bD).t.out _ e; omega
  have hfk := hid (Fk.bw bC h4.out.kw)
  generalize ((W4.alloc (.cells #[.int .i64 t1, .int .i64 (tr - t1)] 3)).drew) = w5 at *
  refine last_ (i := 19) (N := (some 72)) #[true, true, true, true, true, true, true, true, true, true, true, true, true, true, true, true, true, true, true, true, false, false, false] rfl rfl (by kernel_rfl) (by decide) (fun K hK => ?_)
  refine goes_ Try.func60 (by kernel_rfl) rfl #[.slice (some a3) n c3, .int .i64 (i : Int), .int .i64 ((i : Int) + 1), .slice (some ⟨(W4.drewN 1).heap.size, 0, none⟩) 2 2] (by rfl) rfl rfl (by (try simp only [List.map_toArray, List.map_cons, List.map_nil]); first | done | rfl) ?_
  refine (rep2_I 0 n i (W4.drewN 1).heap.size (.slice (some a3) n c3) s.ts [t1, tr - t1] w5 (by have := h5.t; simp only at this; rw [HTS.out] at this; exact this) (Nat.zero_le _) HI.out HN2.out hv rfl hne).mono ?_
  rintro e w6 ⟨v6, rfl, ho, hg, hown⟩
  refine ⟨_, rfl, ?_⟩
  obtain ⟨A6, c6, rfl, _, _⟩ := FO.reads ho
  have hq := hid (h5.put_t (l' := refM s.ts i t1 (tr - t1)) (by rw [refM_length (by rw [HTS.out]; exact HI.out), HTS.out]; exact ho) hg hown)
  have hst := blk_grown h5.st hg (own_ne h5.t.out h5.st (by decide))
  have s3 := (blk_cell hst 3).trans (show _ = some (Value.slice (some a3) n c3) from rfl)
  have f3 := blk_frozen hst 3
  clear ho hg hown hst h5 hv hne k3 z3
  refine hK.out _ _ ?_
  clear hK K
  refine norm_ (a' := ?_) ?_ ?_
  rotate_left
  · show Act.put _ (some 72) _ = _
    simp only [Act.put, List.setIfInBounds_toArray, List.set_cons_zero, List.set_cons_succ, i64_w, i32_w]
    rfl
  refine pure_ (i := 20) (N := (some 73)) (v := ?_) (a' := ?_) #[true, true, true, true, true, true, true, true, true, true, true, true, true, true, true, true, true, true, true, true, true, false, false] rfl rfl (by kernel_rfl) (fun _ _ _ h => h) (Or.inl ⟨by rfl, ?_⟩) ?_ ?_
  rotate_left
  · intro w'
    go_simp
    with_reducible rfl
  rotate_left
  · simp only [Act.put, List.setIfInBounds_toArray, List.set_cons_zero, List.set_cons_succ, i64_w, i32_w]
    rfl
  refine pure_ (i := 21) (N := (some 74)) (v := ?_) (a' := ?_) #[true, true, true, true, true, true, true, true, true, true, true, true, true, true, true, true, true, true, true, true, true, true, false] rfl rfl (by kernel_rfl) (fun _ _ _ h => h) (Or.inl ⟨by rfl, ?_⟩) ?_ ?_
  rotate_left
  · intro w'
    go_simp
    with_reducible rfl
  rotate_left
  · simp only [Act.put, List.setIfInBounds_toArray, List.set_cons_zero, List.set_cons_succ, i64_w, i32_w]
    rfl
  refine last_ (i := 22) (N := none) #[true, true, true, true, true, true, true, true, true, true, true, true, true, true, true, true, true, true, true, true, true, true, true] rfl rfl (by kernel_rfl) (by decide) (fun K hK => ?_)
  refine skip_ (w1 := ?_) (by rfl) rfl ?_ ?_
  rotate_left
  · go_simp
    rfl
  refine hK.out _ _ ?_
  clear hK K
  refine done_ (by kernel_rfl) ?_
  have hF := HF4.out.trans (hfk.out.trans hq.out.2)
  go_wp2
  refine bodyPost_end (v := .tuple #[]) (by simp [results, Try.results30, go_sem]) rfl ⟨⟨_, rfl⟩, ⟨_, _, _, by rw [HRS.out]; exact hq.out.1⟩, hF⟩
end Go.Proofs.Ytaidbdogolhnjaa.U
