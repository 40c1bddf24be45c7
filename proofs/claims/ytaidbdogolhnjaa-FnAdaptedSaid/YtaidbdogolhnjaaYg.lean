
/- Coarsening. -/
import Derived.Test.YtaidbdogolhnjaaYf
set_option linter.unusedVariables false
set_option linter.unusedSimpArgs false
namespace Go.Proofs.Ytaidbdogolhnjaa.U
open Go.RowKit Go.Lib Go.Proofs.YtaidbdogolhnjaaW.PrintWords

open Go.Proofs.YtaidbdogolhnjaaW.PrintLast Go.Proofs.YtaidbdogolhnjaaW.PrintMore
def merC (l : List Ce) (i : Nat) : List Ce := l.take i ++ [parC (gc l i)] ++ l.drop (i + 2)
def merM (l : List Int) (i : Nat) (a : Int) : List Int := l.take i ++ [a] ++ l.drop (i + 2)
/-- a state with two leaves coarsened -/
def merS (s : Sta) (i : Nat) : Sta := ⟨s.ro, merC s.lv i, merM s.ms i (rd s.ms (i : Int) + rd s.ms ((i + 1 : Nat) : Int)), merM s.ts i (rd s.ts (i : Int) + rd s.ts ((i + 1 : Nat) : Int)), s.bd⟩
theorem merC_length {l : List Ce} {i : Nat} (h : i + 1 < l.length) : (merC l i).length = l.length - 1 := by
  rw [merC]
  simp only [List.length_append, List.length_take, List.length_drop, List.length_cons, List.length_nil]
  omega
theorem merM_length {l : List Int} {i : Nat} {a : Int} (h : i + 1 < l.length) : (merM l i a).length = l.length - 1 := by
  rw [merM]
  simp only [List.length_append, List.length_take, List.length_drop, List.length_cons, List.length_nil]
  omega
theorem idF_mer (l : List Ce) (i : Nat) : idF (merC l i) = (idF l).take (i * 3) ++ [(parC (gc l i)).r, (parC (gc l i)).l, (parC (gc l i)).i] ++ (idF l).drop ((i + 2) * 3) := by
  rw [merC, idF_append, idF_append, idF_takeY, idF_dropY]
  rfl

set_option maxHeartbeats 8000000 in
set_option maxRecDepth 100000 in
theorem impl_Mcoarsen (Kp : Nat → Prop) (P : Nat) (s : Sta) (vl vm vt vb : Value) (i : Nat) (w : World) (h : BS w Kp P s vl vm vt vb) (hi : i + 1 < s.lv.length) (hn : s.lv.length ≤ 1000) :
    Calls Try.prog 63 #[.pointer (some ⟨P, 0, none⟩), .int .i64 i] w fun e w' => ∃ u vl', e = .returned u ∧ BS w' Kp P { s with lv := merC s.lv i } vl' vm vt vb ∧ Fk w w' Kp := by
  obtain ⟨n, hN⟩ : ∃ n, s.lv.length = n := ⟨_, rfl⟩
  have HN := hid hN
  have hl := h.l
  rw [hN] at hl hi hn
  have HI := hid hi
  have HN2 := hid (show n ≤ 1000000 by omega)
  obtain ⟨A, c, rfl, hc, _⟩ := hl.reads
  have hr := FO.idR hl
  obtain ⟨ad, rfl, x0, x1, x2⟩ := hr.at i (by omega)
  obtain ⟨q0, q1, q2, hq⟩ : ∃ q0 q1 q2, gc s.lv i = ⟨q0, q1, q2⟩ := ⟨_, _, _, rfl⟩
  rw [hq] at x0 x1 x2
  simp only at x0 x1 x2
  have k1 : w.cell? ⟨P, 1, none⟩ = some (.slice (some ad) n c) := (blk_cell h.st 1).trans rfl
  have i4 : (0 : Int) ≤ (i : Int) := by omega
  have i5 : (i : Int) < (n : Int) := by omega
  have e1 : IntKind.i64.wrap ((i : Int) + 2) = (i : Int) + 2 := i64w (by omega) (by omega)
  have hqp : ∃ a0 a1 a2, parC ⟨q0, q1, q2⟩ = ⟨a0, a1, a2⟩ := ⟨_, _, _, rfl⟩
  obtain ⟨a0, a1, a2, ha⟩ := hqp
  have HA := hid ha
  have HQ := hid (show parC (gc s.lv i) = ⟨a0, a1, a2⟩ by rw [hq, ha])
  have HH := hid h
  clear hl hc hr hN hq hi hn h ha
  go_enter Try.func63, Try.ntmps63
  go_wp2_with fail
  refine (impl_ParentOf ⟨q0, q1, q2⟩ _).mono ?_
  rintro e w2 ⟨rfl, b2⟩
  rw [HA.out]
  have b1 := b2.trans (Bw.box1 w2 (.cells #[.int .i64 a0, .int .i64 a1, .int .i64 a2] 58))
  have y0 := box_cell (Bw.refl (w2.alloc (.cells #[.int .i64 a0, .int .i64 a1, .int .i64 a2] 58))) 0
  have y1 := box_cell (Bw.refl (w2.alloc (.cells #[.int .i64 a0, .int .i64 a1, .int .i64 a2] 58))) 1
  have y2 := box_cell (Bw.refl (w2.alloc (.cells #[.int .i64 a0, .int .i64 a1, .int .i64 a2] 58))) 2
  simp only [List.getElem?_toArray, List.getElem?_cons_zero, List.getElem?_cons_succ] at y0 y1 y2
  have h1 := hid (HH.out.to b1)
  have HF1 := hid (Fk.bw b1 HH.out.kw)
  clear b2 b1 HH
  go_upto_region 1 with fail
  replace k1 : (w2.alloc (.cells #[.int .i64 a0, .int .i64 a1, .int .i64 a2] 58)).cell? ⟨P, 1, none⟩ = some (.slice (some ad) n c) := (blk_cell h1.out.st 1).trans rfl
  clear x0 x1 x2
  generalize (w2.alloc (.cells #[.int .i64 a0, .int .i64 a1, .int .i64 a2] 58)) = W1 at *
  generalize w2.heap.size = X at *
  have bD := Bw.drawn (a := W1) ⟨⟨1, rfl⟩⟩
  refine start_ (n := 14) (S := fun w' => w'.cell? ⟨P, 1, none⟩ = some (.slice (some ad) n c) ∧ w'.cell? ⟨X, 0, none⟩ = some (.int .i64 a0) ∧ w'.cell? ⟨X, 1, none⟩ = some (.int .i64 a1) ∧ w'.cell? ⟨X, 2, none⟩ = some (.int .i64 a2)) (ds := [10, 13]) #[false, false, false, false, false, false, false, false, false, false, false, false, false, false] (by kernel_rfl) rfl rfl ⟨k1, y0, y1, y2⟩ (fun hHeld => ?_)
  refine pure_ (i := 0) (N := (some 17)) (v := ?_) (a' := ?_) #[true, false, false, false, false, false, false, false, false, false, false, false, false, false] rfl rfl (by kernel_rfl) (fun _ _ _ h => h) (Or.inl ⟨by rfl, ?_⟩) ?_ ?_
  rotate_left
  · intro w'
    go_simp
    with_reducible rfl
  rotate_left
  · simp only [Act.put, List.setIfInBounds_toArray, List.set_cons_zero, List.set_cons_succ, i64_w, i32_w]
    rfl
  refine pure_ (i := 1) (N := (some 18)) (v := ?_) (a' := ?_) #[true, true, false, false, false, false, false, false, false, false, false, false, false, false] rfl rfl (by kernel_rfl) (fun _ _ _ h => h) (Or.inl ⟨by rfl, ?_⟩) ?_ ?_
  rotate_left
  · intro w'
    go_simp
    with_reducible rfl
  rotate_left
  · simp only [Act.put, List.setIfInBounds_toArray, List.set_cons_zero, List.set_cons_succ, i64_w, i32_w]
    rfl
  refine pure_ (i := 2) (N := (some 19)) (v := ?_) (a' := ?_) #[true, true, true, false, false, false, false, false, false, false, false, false, false, false] rfl rfl (by kernel_rfl) (fun _ _ _ h => h) (Or.inl ⟨by rfl, ?_⟩) ?_ ?_
  rotate_left
  · intro w'
    go_simp
    with_reducible rfl
  rotate_left
  · simp only [Act.put, List.setIfInBounds_toArray, List.set_cons_zero, List.set_cons_succ, i64_w, i32_w]
    rfl
  refine pure_ (i := 3) (N := (some 20)) (v := ?_) (a' := ?_) #[true, true, true, true, false, false, false, false, false, false, false, false, false, false] rfl rfl (by kernel_rfl) (fun _ _ _ h => h) (Or.inl ⟨by rfl, ?_⟩) ?_ ?_
  rotate_left
  · intro w'
    go_simp
    with_reducible rfl
  rotate_left
  · simp only [Act.put, List.setIfInBounds_toArray, List.set_cons_zero, List.set_cons_succ, i64_w, i32_w]
    rfl
  refine take_ (i := 4) (N := (some 21)) (v := ?_) (a' := ?_) #[true, true, true, true, true, false, false, false, false, false, false, false, false, false] rfl rfl (by kernel_rfl) (fun _ _ _ h => h) (Or.inl ⟨by rfl, ?_⟩) hHeld ?_ ?_
  rotate_left
  · rintro w' ⟨s0, s1, s2, s3⟩
    go_simp
    with_reducible rfl
  rotate_left
  · simp only [Act.put, List.setIfInBounds_toArray, List.set_cons_zero, List.set_cons_succ, i64_w, i32_w]
    rfl
  refine pure_ (i := 5) (N := (some 22)) (v := ?_) (a' := ?_) #[true, true, true, true, true, true, false, false, false, false, false, false, false, false] rfl rfl (by kernel_rfl) (fun _ _ _ h => h) (Or.inl ⟨by rfl, ?_⟩) ?_ ?_
  rotate_left
  · intro w'
    go_simp
    with_reducible rfl
  rotate_left
  · simp only [Act.put, List.setIfInBounds_toArray, List.set_cons_zero, List.set_cons_succ, i64_w, i32_w]
    rfl
  refine pure_ (i := 6) (N := (some 23)) (v := ?_) (a' := ?_) #[true, true, true, true, true, true, true, false, false, false, false, false, false, false] rfl rfl (by kernel_rfl) (fun _ _ _ h => h) (Or.inl ⟨by rfl, ?_⟩) ?_ ?_
  rotate_left
  · intro w'
    go_simp
    with_reducible rfl
  rotate_left
  · simp only [Act.put, List.setIfInBounds_toArray, List.set_cons_zero, List.set_cons_succ, i64_w, i32_w]
    rfl
  refine pure_ (i := 7) (N := (some 24)) (v := ?_) (a' := ?_) #[true, true, true, true, true, true, true, true, false, false, false, false, false, false] rfl rfl (by kernel_rfl) (fun _ _ _ h => h) (Or.inl ⟨by rfl, ?_⟩) ?_ ?_
  rotate_left
  · intro w'
    go_simp
    with_reducible rfl
  rotate_left
  · simp only [Act.put, List.setIfInBounds_toArray, List.set_cons_zero, List.set_cons_succ, i64_w, i32_w]
    rfl
  refine take_ (i := 8) (N := (some 25)) (v := ?_) (a' := ?_) #[true, true, true, true, true, true, true, true, true, false, false, false, false, false] rfl rfl (by kernel_rfl) (fun _ _ _ h => h) (Or.inl ⟨by rfl, ?_⟩) hHeld ?_ ?_
  rotate_left
  · rintro w' ⟨s0, s1, s2, s3⟩
    go_simp
    with_reducible rfl
  rotate_left
  · simp only [Act.put, List.setIfInBounds_toArray, List.set_cons_zero, List.set_cons_succ, i64_w, i32_w]
    rfl
  have bC : Bw W1 ((W1.alloc (.cells #[.int .i64 a0, .int .i64 a1, .int .i64 a2] 58)).drew) := (Bw.box1 W1 (.cells #[.int .i64 a0, .int .i64 a1, .int .i64 a2] 58)).trans (Bw.drawn ⟨⟨1, rfl⟩⟩)
  have hv : ((W1.alloc (.cells #[.int .i64 a0, .int .i64 a1, .int .i64 a2] 58)).drew).heap[(W1.drewN 1).heap.size]? = some (.cells #[.int .i64 a0, .int .i64 a1, .int .i64 a2] 58 (0, 0)) := heap_alloc_new W1 (.cells #[.int .i64 a0, .int .i64 a1, .int .i64 a2] 58 (0, 0))
  refine one_ (i := 9) (N := (some 26)) #[true, true, true, true, true, true, true, true, true, true, false, false, false, false] rfl rfl (by kernel_rfl) (by decide) (fun K hK => ?_)
  refine value_ (w1 := ?_) (v := ?_) (by rfl) rfl ?_ ?_
  rotate_left 2
  · go_simp
    constructor
    · rfl
    · rfl
  refine hK.out _ _ ⟨pw_cell_below bC.out k1, pw_cell_below bC.out y0, pw_cell_below bC.out y1, pw_cell_below bC.out y2⟩ (fun hHeld => ?_)
  clear hK K
  refine norm_ (a' := ?_) ?_ ?_
  rotate_left
  · show Act.put _ (some 26) _ = _
    simp only [Act.put, List.setIfInBounds_toArray, List.set_cons_zero, List.set_cons_succ, i64_w, i32_w]
    rfl
  clear hHeld
  have h5 := h1.out.to bC
  have hne : (Value.slice (some ad) n c).ownBlock ≠ some (W1.drewN 1).heap.size := fun e => by have := own_lt (h1.out.to bD).l.out _ e; omega
  generalize ((W1.alloc (.cells #[.int .i64 a0, .int .i64 a1, .int .i64 a2] 58)).drew) = w5 at *
  refine last_ (i := 10) (N := (some 27)) #[true, true, true, true, true, true, true, true, true, true, true, false, false, false] rfl rfl (by kernel_rfl) (by decide) (fun K hK => ?_)
  refine goes_ Try.func84 (by kernel_rfl) rfl #[.slice (some ad) n c, .int .i64 (i : Int), .int .i64 ((i : Int) + 2), .slice (some ⟨(W1.drewN 1).heap.size, 0, none⟩) 1 1] (by rfl) rfl rfl (by (try simp only [List.map_toArray, List.map_cons, List.map_nil]); first | done | rfl) ?_
  refine (rep1_D 0 n i (W1.drewN 1).heap.size (.slice (some ad) n c) (idF s.lv) [a0, a1, a2] w5 (by have := h5.l; rw [HN.out] at this; exact this) HI.out HN2.out hv rfl hne).mono ?_
  rintro e w6 ⟨v6, rfl, ho, hg, hown⟩
  refine ⟨_, rfl, ?_⟩
  obtain ⟨A6, c6, rfl, _, _⟩ := FO.reads ho
  have hq := hid (h5.put_l (l' := merC s.lv i) (by rw [merC_length (by rw [HN.out]; exact HI.out), HN.out, idF_mer, HQ.out]; exact ho) hg (Or.inl hown))
  have hst := blk_grown h5.st hg (own_ne h5.l.out h5.st (by decide))
  have s1 := (blk_cell hst 1).trans (show _ = some (Value.slice (some ad) n c) from rfl)
  have f1 := blk_frozen hst 1
  clear ho hg hown hst h5 hv hne
  refine hK.out _ _ ?_
  clear hK K
  refine norm_ (a' := ?_) ?_ ?_
  rotate_left
  · show Act.put _ (some 27) _ = _
    simp only [Act.put, List.setIfInBounds_toArray, List.set_cons_zero, List.set_cons_succ, i64_w, i32_w]
    rfl
  refine pure_ (i := 11) (N := (some 28)) (v := ?_) (a' := ?_) #[true, true, true, true, true, true, true, true, true, true, true, true, false, false] rfl rfl (by kernel_rfl) (fun _ _ _ h => h) (Or.inl ⟨by rfl, ?_⟩) ?_ ?_
  rotate_left
  · intro w'
    go_simp
    with_reducible rfl
  rotate_left
  · simp only [Act.put, List.setIfInBounds_toArray, List.set_cons_zero, List.set_cons_succ, i64_w, i32_w]
    rfl
  refine pure_ (i := 12) (N := (some 29)) (v := ?_) (a' := ?_) #[true, true, true, true, true, true, true, true, true, true, true, true, true, false] rfl rfl (by kernel_rfl) (fun _ _ _ h => h) (Or.inl ⟨by rfl, ?_⟩) ?_ ?_
  rotate_left
  · intro w'
    go_simp
    with_reducible rfl
  rotate_left
  · simp only [Act.put, List.setIfInBounds_toArray, List.set_cons_zero, List.set_cons_succ, i64_w, i32_w]
    rfl
  refine last_ (i := 13) (N := none) #[true, true, true, true, true, true, true, true, true, true, true, true, true, true] rfl rfl (by kernel_rfl) (by decide) (fun K hK => ?_)
  refine skip_ (w1 := ?_) (by rfl) rfl ?_ ?_
  rotate_left
  · go_simp
    rfl
  refine hK.out _ _ ?_
  clear hK K
  refine done_ (by kernel_rfl) ?_
  clear k1 y0 y1 y2 bD
  have hfk := HF1.out.trans ((Fk.bw bC h1.out.kw).trans hq.out.2)
  go_wp2
  exact bodyPost_end (v := .tuple #[]) (by simp [results, Try.results63, go_sem]) rfl ⟨_, _, rfl, hq.out.1, hfk⟩

set_option maxHeartbeats 8000000 in
set_option maxRecDepth 100000 in
theorem impl_Scoarsen (Kp : Nat → Prop) (P : Nat) (s : Sta) (vl vm vt vb : Value) (i : Nat) (w : World) (h : BS w Kp P s vl vm vt vb) (hi : i + 1 < s.lv.length) (hms : s.ms.length = s.lv.length) (hts : s.ts.length = s.lv.length) (hn : s.lv.length ≤ 1000)
    (hm : ∀ j, j < s.lv.length → 0 ≤ rd s.ms (j : Int) ∧ rd s.ms (j : Int) ≤ 10000000) (ht : ∀ j, j < s.lv.length → 0 ≤ rd s.ts (j : Int) ∧ rd s.ts (j : Int) ≤ 10000000000) :
    Calls Try.prog 34 #[.pointer (some ⟨P, 0, none⟩), .int .i64 i] w fun e w' => (∃ u, e = .returned u) ∧ BX w' Kp P (merS s i) ∧ Fk w w' Kp := by
  obtain ⟨n, hN⟩ : ∃ n, s.lv.length = n := ⟨_, rfl⟩
  have HN := hid hN
  have HMS := hid (hms.trans hN)
  have HTS := hid (hts.trans hN)
  have HHI := hid hi
  have HHN := hid hn
  have hmo := h.m
  have hto := h.t
  rw [hms, hN] at hmo
  rw [hts, hN] at hto
  have hm0 := hm i (by omega)
  have hm1 := hm (i + 1) hi
  have ht0 := ht i (by omega)
  have ht1 := ht (i + 1) hi
  rw [hN] at hi hn
  have HI := hid hi
  have HN2 := hid (show n ≤ 1000000 by omega)
  obtain ⟨A2, c2, rfl, _, _⟩ := hmo.reads
  obtain ⟨A3, c3, rfl, _, _⟩ := hto.reads
  obtain ⟨a2, rfl, z2⟩ := (show RI w A2 n s.ms from (FO.fr hmo).ri).nat i (by omega)
  obtain ⟨a3, rfl, z3⟩ := (show RI w A3 n s.ts from (FO.fr hto).ri).nat i (by omega)
  have i4 : (0 : Int) ≤ (i : Int) := by omega
  have i5 : (i : Int) < (n : Int) := by omega
  have i6 : (0 : Int) ≤ (i : Int) + 1 := by omega
  have i7 : (i : Int) + 1 < (n : Int) := by omega
  have htn : ((i : Int) + 1).toNat = i + 1 := by omega
  obtain ⟨m0, hm0e⟩ : ∃ m, rd s.ms (i : Int) = m := ⟨_, rfl⟩
  obtain ⟨m1, hm1e⟩ : ∃ m, rd s.ms ((i + 1 : Nat) : Int) = m := ⟨_, rfl⟩
  obtain ⟨t0, ht0e⟩ : ∃ m, rd s.ts (i : Int) = m := ⟨_, rfl⟩
  obtain ⟨t1, ht1e⟩ : ∃ m, rd s.ts ((i + 1 : Nat) : Int) = m := ⟨_, rfl⟩
  rw [hm0e] at hm0
  rw [hm1e] at hm1
  rw [ht0e] at ht0
  rw [ht1e] at ht1
  have HRS := hid (show merS s i = ⟨s.ro, merC s.lv i, merM s.ms i (m0 + m1), merM s.ts i (t0 + t1), s.bd⟩ by rw [merS, hm0e, hm1e, ht0e, ht1e])
  have HE := hid (And.intro hm0e (And.intro hm1e (And.intro ht0e ht1e)))
  have HH := hid h
  have e2 : IntKind.i64.wrap (m0 + m1) = m0 + m1 := i64w (by omega) (by omega)
  have e3 : IntKind.i64.wrap (t0 + t1) = t0 + t1 := by clear e2; exact i64w (by omega) (by omega)
  have e1 : IntKind.i64.wrap ((i : Int) + 1) = (i : Int) + 1 := by clear e2 e3; exact i64w (by omega) (by omega)
  have e4 : IntKind.i64.wrap ((i : Int) + 2) = (i : Int) + 2 := by clear e2 e3 e1; exact i64w (by omega) (by omega)
  clear hmo hto hN hi hn hms hts h hm0e hm1e ht0e ht1e hm0 hm1 ht0 ht1 hm ht z2 z3
  go_enter Try.func34, Try.ntmps34
  go_wp2_with fail
  refine (impl_Mcoarsen Kp P s vl (.slice (some a2) n c2) (.slice (some a3) n c3) vb i _ HH.out HHI.out HHN.out).mono ?_
  rintro e W2 ⟨u, vl2, rfl, hh2, f2⟩
  have h2 := hid hh2
  have HF2 := hid f2
  have kk : W2.cell? ⟨P, 2, none⟩ = some (.slice (some a2) n c2) := (blk_cell hh2.st 2).trans rfl
  have hr2 : RI W2 (some a2) n s.ms := by
    have := (FO.fr hh2.m).ri
    simp only [HMS.out] at this
    exact this
  have za : W2.cell? (a2.add i) = some (.int .i64 m0) := by
    obtain ⟨_, e, hz⟩ := hr2.nat i (by have := HI.out; omega)
    obtain rfl := Option.some.inj e
    rw [hz, HE.out.1]
  have zb : W2.cell? ⟨a2.block, a2.off + (i + 1), none⟩ = some (.int .i64 m1) := by
    obtain ⟨_, e, hz⟩ := hr2.nat (i + 1) HI.out
    obtain rfl := Option.some.inj e
    rw [← add_pos _ _ (Nat.succ_pos i), hz, HE.out.2.1]
  clear hh2 f2 HH hr2
  go_upto_region 1 with fail
  have bD := Bw.drawn (a := W2) ⟨⟨1, rfl⟩⟩
  refine start_ (n := 29) (S := fun w' => w'.cell? ⟨P, 2, none⟩ = some (.slice (some a2) n c2) ∧ w'.cell? (a2.add i) = some (.int .i64 m0) ∧ w'.cell? ⟨a2.block, a2.off + (i + 1), none⟩ = some (.int .i64 m1)) (ds := [25, 28]) #[false, false, false, false, false, false, false, false, false, false, false, false, false, false, false, false, false, false, false, false, false, false, false, false, false, false, false, false, false] (by kernel_rfl) rfl rfl ⟨kk, za, zb⟩ (fun hHeld => ?_)
  refine pure_ (i := 0) (N := (some 9)) (v := ?_) (a' := ?_) #[true, false, false, false, false, false, false, false, false, false, false, false, false, false, false, false, false, false, false, false, false, false, false, false, false, false, false, false, false] rfl rfl (by kernel_rfl) (fun _ _ _ h => h) (Or.inl ⟨by rfl, ?_⟩) ?_ ?_
  rotate_left
  · intro w'
    go_simp
    with_reducible rfl
  rotate_left
  · simp only [Act.put, List.setIfInBounds_toArray, List.set_cons_zero, List.set_cons_succ, i64_w, i32_w]
    rfl
  refine pure_ (i := 1) (N := (some 10)) (v := ?_) (a' := ?_) #[true, true, false, false, false, false, false, false, false, false, false, false, false, false, false, false, false, false, false, false, false, false, false, false, false, false, false, false, false] rfl rfl (by kernel_rfl) (fun _ _ _ h => h) (Or.inl ⟨by rfl, ?_⟩) ?_ ?_
  rotate_left
  · intro w'
    go_simp
    with_reducible rfl
  rotate_left
  · simp only [Act.put, List.setIfInBounds_toArray, List.set_cons_zero, List.set_cons_succ, i64_w, i32_w]
    rfl
  refine pure_ (i := 2) (N := (some 11)) (v := ?_) (a' := ?_) #[true, true, true, false, false, false, false, false, false, false, false, false, false, false, false, false, false, false, false, false, false, false, false, false, false, false, false, false, false] rfl rfl (by kernel_rfl) (fun _ _ _ h => h) (Or.inl ⟨by rfl, ?_⟩) ?_ ?_
  rotate_left
  · intro w'
    go_simp
    with_reducible rfl
  rotate_left
  · simp only [Act.put, List.setIfInBounds_toArray, List.set_cons_zero, List.set_cons_succ, i64_w, i32_w]
    rfl
  refine pure_ (i := 3) (N := (some 12)) (v := ?_) (a' := ?_) #[true, true, true, true, false, false, false, false, false, false, false, false, false, false, false, false, false, false, false, false, false, false, false, false, false, false, false, false, false] rfl rfl (by kernel_rfl) (fun _ _ _ h => h) (Or.inl ⟨by rfl, ?_⟩) ?_ ?_
  rotate_left
  · intro w'
    go_simp
    with_reducible rfl
  rotate_left
  · simp only [Act.put, List.setIfInBounds_toArray, List.set_cons_zero, List.set_cons_succ, i64_w, i32_w]
    rfl
  refine take_ (i := 4) (N := (some 13)) (v := ?_) (a' := ?_) #[true, true, true, true, true, false, false, false, false, false, false, false, false, false, false, false, false, false, false, false, false, false, false, false, false, false, false, false, false] rfl rfl (by kernel_rfl) (fun _ _ _ h => h) (Or.inl ⟨by rfl, ?_⟩) hHeld ?_ ?_
  rotate_left
  · rintro w' ⟨s0, s1, s2⟩
    go_simp
    with_reducible rfl
  rotate_left
  · simp only [Act.put, List.setIfInBounds_toArray, List.set_cons_zero, List.set_cons_succ, i64_w, i32_w]
    rfl
  refine pure_ (i := 5) (N := (some 14)) (v := ?_) (a' := ?_) #[true, true, true, true, true, true, false, false, false, false, false, false, false, false, false, false, false, false, false, false, false, false, false, false, false, false, false, false, false] rfl rfl (by kernel_rfl) (fun _ _ _ h => h) (Or.inl ⟨by rfl, ?_⟩) ?_ ?_
  rotate_left
  · intro w'
    go_simp
    with_reducible rfl
  rotate_left
  · simp only [Act.put, List.setIfInBounds_toArray, List.set_cons_zero, List.set_cons_succ, i64_w, i32_w]
    rfl
  refine pure_ (i := 6) (N := (some 15)) (v := ?_) (a' := ?_) #[true, true, true, true, true, true, true, false, false, false, false, false, false, false, false, false, false, false, false, false, false, false, false, false, false, false, false, false, false] rfl rfl (by kernel_rfl) (fun _ _ _ h => h) (Or.inl ⟨by rfl, ?_⟩) ?_ ?_
  rotate_left
  · intro w'
    go_simp
    with_reducible rfl
  rotate_left
  · simp only [Act.put, List.setIfInBounds_toArray, List.set_cons_zero, List.set_cons_succ, i64_w, i32_w]
    rfl
  refine pure_ (i := 7) (N := (some 16)) (v := ?_) (a' := ?_) #[true, true, true, true, true, true, true, true, false, false, false, false, false, false, false, false, false, false, false, false, false, false, false, false, false, false, false, false, false] rfl rfl (by kernel_rfl) (fun _ _ _ h => h) (Or.inl ⟨by rfl, ?_⟩) ?_ ?_
  rotate_left
  · intro w'
    go_simp
    with_reducible rfl
  rotate_left
  · simp only [Act.put, List.setIfInBounds_toArray, List.set_cons_zero, List.set_cons_succ, i64_w, i32_w]
    rfl
  refine pure_ (i := 8) (N := (some 17)) (v := ?_) (a' := ?_) #[true, true, true, true, true, true, true, true, true, false, false, false, false, false, false, false, false, false, false, false, false, false, false, false, false, false, false, false, false] rfl rfl (by kernel_rfl) (fun _ _ _ h => h) (Or.inl ⟨by rfl, ?_⟩) ?_ ?_
  rotate_left
  · intro w'
    go_simp
    with_reducible rfl
  rotate_left
  · simp only [Act.put, List.setIfInBounds_toArray, List.set_cons_zero, List.set_cons_succ, i64_w, i32_w]
    rfl
  refine pure_ (i := 9) (N := (some 18)) (v := ?_) (a' := ?_) #[true, true, true, true, true, true, true, true, true, true, false, false, false, false, false, false, false, false, false, false, false, false, false, false, false, false, false, false, false] rfl rfl (by kernel_rfl) (fun _ _ _ h => h) (Or.inl ⟨by rfl, ?_⟩) ?_ ?_
  rotate_left
  · intro w'
    go_simp
    with_reducible rfl
  rotate_left
  · simp only [Act.put, List.setIfInBounds_toArray, List.set_cons_zero, List.set_cons_succ, i64_w, i32_w]
    rfl
  refine pure_ (i := 10) (N := (some 19)) (v := ?_) (a' := ?_) #[true, true, true, true, true, true, true, true, true, true, true, false, false, false, false, false, false, false, false, false, false, false, false, false, false, false, false, false, false] rfl rfl (by kernel_rfl) (fun _ _ _ h => h) (Or.inl ⟨by rfl, ?_⟩) ?_ ?_
  rotate_left
  · intro w'
    go_simp
    with_reducible rfl
  rotate_left
  · simp only [Act.put, List.setIfInBounds_toArray, List.set_cons_zero, List.set_cons_succ, i64_w, i32_w]
    rfl
  refine take_ (i := 11) (N := (some 20)) (v := ?_) (a' := ?_) #[true, true, true, true, true, true, true, true, true, true, true, true, false, false, false, false, false, false, false, false, false, false, false, false, false, false, false, false, false] rfl rfl (by kernel_rfl) (fun _ _ _ h => h) (Or.inl ⟨by rfl, ?_⟩) hHeld ?_ ?_
  rotate_left
  · rintro w' ⟨s0, s1, s2⟩
    go_simp
    with_reducible rfl
  rotate_left
  · simp only [Act.put, List.setIfInBounds_toArray, List.set_cons_zero, List.set_cons_succ, i64_w, i32_w]
    rfl
  refine pure_ (i := 12) (N := (some 21)) (v := ?_) (a' := ?_) #[true, true, true, true, true, true, true, true, true, true, true, true, true, false, false, false, false, false, false, false, false, false, false, false, false, false, false, false, false] rfl rfl (by kernel_rfl) (fun _ _ _ h => h) (Or.inl ⟨by rfl, ?_⟩) ?_ ?_
  rotate_left
  · intro w'
    go_simp
    with_reducible rfl
  rotate_left
  · simp only [Act.put, List.setIfInBounds_toArray, List.set_cons_zero, List.set_cons_succ, i64_w, i32_w]
    rfl
  refine pure_ (i := 13) (N := (some 22)) (v := ?_) (a' := ?_) #[true, true, true, true, true, true, true, true, true, true, true, true, true, true, false, false, false, false, false, false, false, false, false, false, false, false, false, false, false] rfl rfl (by kernel_rfl) (fun _ _ _ h => h) (Or.inl ⟨by rfl, ?_⟩) ?_ ?_
  rotate_left
  · intro w'
    go_simp
    with_reducible rfl
  rotate_left
  · simp only [Act.put, List.setIfInBounds_toArray, List.set_cons_zero, List.set_cons_succ, i64_w, i32_w]
    rfl
  refine take_ (i := 14) (N := (some 23)) (v := ?_) (a' := ?_) #[true, true, true, true, true, true, true, true, true, true, true, true, true, true, true, false, false, false, false, false, false, false, false, false, false, false, false, false, false] rfl rfl (by kernel_rfl) (fun _ _ _ h => h) (Or.inl ⟨by rfl, ?_⟩) hHeld ?_ ?_
  rotate_left
  · rintro w' ⟨s0, s1, s2⟩
    go_simp
    with_reducible rfl
  rotate_left
  · simp only [Act.put, List.setIfInBounds_toArray, List.set_cons_zero, List.set_cons_succ, i64_w, i32_w]
    rfl
  refine pure_ (i := 15) (N := (some 24)) (v := ?_) (a' := ?_) #[true, true, true, true, true, true, true, true, true, true, true, true, true, true, true, true, false, false, false, false, false, false, false, false, false, false, false, false, false] rfl rfl (by kernel_rfl) (fun _ _ _ h => h) (Or.inl ⟨by rfl, ?_⟩) ?_ ?_
  rotate_left
  · intro w'
    go_simp
    with_reducible rfl
  rotate_left
  · simp only [Act.put, List.setIfInBounds_toArray, List.set_cons_zero, List.set_cons_succ, i64_w, i32_w]
    rfl
  refine pure_ (i := 16) (N := (some 25)) (v := ?_) (a' := ?_) #[true, true, true, true, true, true, true, true, true, true, true, true, true, true, true, true, true, false, false, false, false, false, false, false, false, false, false, false, false] rfl rfl (by kernel_rfl) (fun _ _ _ h => h) (Or.inl ⟨by rfl, ?_⟩) ?_ ?_
  rotate_left
  · intro w'
    go_simp
    with_reducible rfl
  rotate_left
  · simp only [Act.put, List.setIfInBounds_toArray, List.set_cons_zero, List.set_cons_succ, i64_w, i32_w]
    rfl
  refine pure_ (i := 17) (N := (some 26)) (v := ?_) (a' := ?_) #[true, true, true, true, true, true, true, true, true, true, true, true, true, true, true, true, true, true, false, false, false, false, false, false, false, false, false, false, false] rfl rfl (by kernel_rfl) (fun _ _ _ h => h) (Or.inl ⟨by rfl, ?_⟩) ?_ ?_
  rotate_left
  · intro w'
    go_simp
    with_reducible rfl
  rotate_left
  · simp only [Act.put, List.setIfInBounds_toArray, List.set_cons_zero, List.set_cons_succ, i64_w, i32_w]
    rfl
  refine take_ (i := 18) (N := (some 27)) (v := ?_) (a' := ?_) #[true, true, true, true, true, true, true, true, true, true, true, true, true, true, true, true, true, true, true, false, false, false, false, false, false, false, false, false, false] rfl rfl (by kernel_rfl) (fun _ _ _ h => h) (Or.inl ⟨by rfl, ?_⟩) hHeld ?_ ?_
  rotate_left
  · rintro w' ⟨s0, s1, s2⟩
    go_simp
    with_reducible rfl
  rotate_left
  · simp only [Act.put, List.setIfInBounds_toArray, List.set_cons_zero, List.set_cons_succ, i64_w, i32_w]
    rfl
  refine pure_ (i := 19) (N := (some 28)) (v := ?_) (a' := ?_) #[true, true, true, true, true, true, true, true, true, true, true, true, true, true, true, true, true, true, true, true, false, false, false, false, false, false, false, false, false] rfl rfl (by kernel_rfl) (fun _ _ _ h => h) (Or.inl ⟨by rfl, ?_⟩) ?_ ?_
  rotate_left
  · intro w'
    go_simp
    with_reducible rfl
  rotate_left
  · simp only [Act.put, List.setIfInBounds_toArray, List.set_cons_zero, List.set_cons_succ, i64_w, i32_w]
    rfl
  refine pure_ (i := 20) (N := (some 29)) (v := ?_) (a' := ?_) #[true, true, true, true, true, true, true, true, true, true, true, true, true, true, true, true, true, true, true, true, true, false, false, false, false, false, false, false, false] rfl rfl (by kernel_rfl) (fun _ _ _ h => h) (Or.inl ⟨by rfl, ?_⟩) ?_ ?_
  rotate_left
  · intro w'
    go_simp
    with_reducible rfl
  rotate_left
  · simp only [Act.put, List.setIfInBounds_toArray, List.set_cons_zero, List.set_cons_succ, i64_w, i32_w]
    rfl
  refine pure_ (i := 21) (N := (some 30)) (v := ?_) (a' := ?_) #[true, true, true, true, true, true, true, true, true, true, true, true, true, true, true, true, true, true, true, true, true, true, false, false, false, false, false, false, false] rfl rfl (by kernel_rfl) (fun _ _ _ h => h) (Or.inl ⟨by rfl, ?_⟩) ?_ ?_
  rotate_left
  · intro w'
    go_simp
    with_reducible rfl
  rotate_left
  · simp only [Act.put, List.setIfInBounds_toArray, List.set_cons_zero, List.set_cons_succ, i64_w, i32_w]
    rfl
  refine take_ (i := 22) (N := (some 31)) (v := ?_) (a' := ?_) #[true, true, true, true, true, true, true, true, true, true, true, true, true, true, true, true, true, true, true, true, true, true, true, false, false, false, false, false, false] rfl rfl (by kernel_rfl) (fun _ _ _ h => h) (Or.inl ⟨by rfl, ?_⟩) hHeld ?_ ?_
  rotate_left
  · rintro w' ⟨s0, s1, s2⟩
    go_simp
    with_reducible rfl
  rotate_left
  · simp only [Act.put, List.setIfInBounds_toArray, List.set_cons_zero, List.set_cons_succ, i64_w, i32_w]
    rfl
  refine pure_ (i := 23) (N := (some 32)) (v := ?_) (a' := ?_) #[true, true, true, true, true, true, true, true, true, true, true, true, true, true, true, true, true, true, true, true, true, true, true, true, false, false, false, false, false] rfl rfl (by kernel_rfl) (fun _ _ _ h => h) (Or.inl ⟨by rfl, ?_⟩) ?_ ?_
  rotate_left
  · intro w'
    go_simp
    with_reducible rfl
  rotate_left
  · simp only [Act.put, List.setIfInBounds_toArray, List.set_cons_zero, List.set_cons_succ, i64_w, i32_w]
    rfl
  have bC : Bw W2 ((W2.alloc (.cells #[.int .i64 (m0 + m1)] 3)).drew) := (Bw.box1 W2 (.cells #[.int .i64 (m0 + m1)] 3)).trans (Bw.drawn ⟨⟨1, rfl⟩⟩)
  have hv : ((W2.alloc (.cells #[.int .i64 (m0 + m1)] 3)).drew).heap[(W2.drewN 1).heap.size]? = some (.cells #[.int .i64 (m0 + m1)] 3 (0, 0)) := heap_alloc_new W2 (.cells #[.int .i64 (m0 + m1)] 3 (0, 0))
  refine one_ (i := 24) (N := (some 33)) #[true, true, true, true, true, true, true, true, true, true, true, true, true, true, true, true, true, true, true, true, true, true, true, true, true, false, false, false, false] rfl rfl (by kernel_rfl) (by decide) (fun K hK => ?_)
  refine value_ (w1 := ?_) (v := ?_) (by rfl) rfl ?_ ?_
  rotate_left 2
  · go_simp
    constructor
    · rfl
    · rfl
  refine hK.out _ _ ⟨pw_cell_below bC.out kk, pw_cell_below bC.out za, pw_cell_below bC.out zb⟩ (fun hHeld => ?_)
  clear hK K
  refine norm_ (a' := ?_) ?_ ?_
  rotate_left
  · show Act.put _ (some 33) _ = _
    simp only [Act.put, List.setIfInBounds_toArray, List.set_cons_zero, List.set_cons_succ, i64_w, i32_w]
    rfl
  clear hHeld
  have h5 := h2.out.to bC
  have hne : (Value.slice (some a2) n c2).ownBlock ≠ some (W2.drewN 1).heap.size := fun e => by have := own_lt (h2.out.to bD).m.out _ e; omega
  have hfk := hid (Fk.bw bC h2.out.kw)
  generalize ((W2.alloc (.cells #[.int .i64 (m0 + m1)] 3)).drew) = w5 at *
  refine last_ (i := 25) (N := (some 34)) #[true, true, true, true, true, true, true, true, true, true, true, true, true, true, true, true, true, true, true, true, true, true, true, true, true, true, false, false, false] rfl rfl (by kernel_rfl) (by decide) (fun K hK => ?_)
  refine goes_ Try.func60 (by kernel_rfl) rfl #[.slice (some a2) n c2, .int .i64 (i : Int), .int .i64 ((i : Int) + 2), .slice (some ⟨(W2.drewN 1).heap.size, 0, none⟩) 1 1] (by rfl) rfl rfl (by (try simp only [List.map_toArray, List.map_cons, List.map_nil]); first | done | rfl) ?_
  refine (rep1_I 0 n i (W2.drewN 1).heap.size (.slice (some a2) n c2) s.ms [m0 + m1] w5 (by have := h5.m; simp only at this; rw [HMS.out] at this; exact this) HI.out HN2.out hv rfl hne).mono ?_
  rintro e w6 ⟨v6, rfl, ho, hg, hown⟩
  refine ⟨_, rfl, ?_⟩
  obtain ⟨A6, c6, rfl, _, _⟩ := FO.reads ho
  have hq := hid (h5.put_m (l' := merM s.ms i (m0 + m1)) (by rw [merM_length (by rw [HMS.out]; exact HI.out), HMS.out]; exact ho) hg (Or.inl hown))
  have hst := blk_grown h5.st hg (own_ne h5.m.out h5.st (by decide))
  have s2 := (blk_cell hst 2).trans (show _ = some (Value.slice (some a2) n c2) from rfl)
  have f2 := blk_frozen hst 2
  clear ho hg hown hst h5 hv hne kk za zb
  refine hK.out _ _ ?_
  clear hK K
  refine norm_ (a' := ?_) ?_ ?_
  rotate_left
  · show Act.put _ (some 34) _ = _
    simp only [Act.put, List.setIfInBounds_toArray, List.set_cons_zero, List.set_cons_succ, i64_w, i32_w]
    rfl
  refine pure_ (i := 26) (N := (some 35)) (v := ?_) (a' := ?_) #[true, true, true, true, true, true, true, true, true, true, true, true, true, true, true, true, true, true, true, true, true, true, true, true, true, true, true, false, false] rfl rfl (by kernel_rfl) (fun _ _ _ h => h) (Or.inl ⟨by rfl, ?_⟩) ?_ ?_
  rotate_left
  · intro w'
    go_simp
    with_reducible rfl
  rotate_left
  · simp only [Act.put, List.setIfInBounds_toArray, List.set_cons_zero, List.set_cons_succ, i64_w, i32_w]
    rfl
  refine pure_ (i := 27) (N := (some 36)) (v := ?_) (a' := ?_) #[true, true, true, true, true, true, true, true, true, true, true, true, true, true, true, true, true, true, true, true, true, true, true, true, true, true, true, true, false] rfl rfl (by kernel_rfl) (fun _ _ _ h => h) (Or.inl ⟨by rfl, ?_⟩) ?_ ?_
  rotate_left
  · intro w'
    go_simp
    with_reducible rfl
  rotate_left
  · simp only [Act.put, List.setIfInBounds_toArray, List.set_cons_zero, List.set_cons_succ, i64_w, i32_w]
    rfl
  refine last_ (i := 28) (N := none) #[true, true, true, true, true, true, true, true, true, true, true, true, true, true, true, true, true, true, true, true, true, true, true, true, true, true, true, true, true] rfl rfl (by kernel_rfl) (by decide) (fun K hK => ?_)
  refine skip_ (w1 := ?_) (by rfl) rfl ?_ ?_
  rotate_left
  · go_simp
    rfl
  refine hK.out _ _ ?_
  clear hK K
  refine done_ (by kernel_rfl) ?_
  have hq2 := hid hq.out
  have HF4 := hid (HF2.out.trans (hfk.out.trans hq.out.2))
  clear hq hfk HF2 h2 bD bC s2 f2
  have h4 := hid hq2.out.1
  have kk : (w6.setCell ⟨P, 2, none⟩ (.slice A6 (n - 1) c6)).cell? ⟨P, 3, none⟩ = some (.slice (some a3) n c3) := (blk_cell h4.out.st 3).trans rfl
  have hr3 : RI (w6.setCell ⟨P, 2, none⟩ (.slice A6 (n - 1) c6)) (some a3) n s.ts := by
    have := (FO.fr h4.out.t).ri
    simp only [HTS.out] at this
    exact this
  have za : (w6.setCell ⟨P, 2, none⟩ (.slice A6 (n - 1) c6)).cell? (a3.add i) = some (.int .i64 t0) := by
    obtain ⟨_, e, hz⟩ := hr3.nat i (by have := HI.out; omega)
    obtain rfl := Option.some.inj e
    rw [hz, HE.out.2.2.1]
  have zb : (w6.setCell ⟨P, 2, none⟩ (.slice A6 (n - 1) c6)).cell? ⟨a3.block, a3.off + (i + 1), none⟩ = some (.int .i64 t1) := by
    obtain ⟨_, e, hz⟩ := hr3.nat (i + 1) HI.out
    obtain rfl := Option.some.inj e
    rw [← add_pos _ _ (Nat.succ_pos i), hz, HE.out.2.2.2]
  clear hr3
  go_upto_region 2 with fail
  generalize (w6.setCell ⟨P, 2, none⟩ (.slice A6 (n - 1) c6)) = W4 at *
  have bD := Bw.drawn (a := W4) ⟨⟨1, rfl⟩⟩
  refine start_ (n := 29) (S := fun w' => w'.cell? ⟨P, 3, none⟩ = some (.slice (some a3) n c3) ∧ w'.cell? (a3.add i) = some (.int .i64 t0) ∧ w'.cell? ⟨a3.block, a3.off + (i + 1), none⟩ = some (.int .i64 t1)) (ds := [25, 28]) #[false, false, false, false, false, false, false, false, false, false, false, false, false, false, false, false, false, false, false, false, false, false, false, false, false, false, false, false, false] (by kernel_rfl) rfl rfl ⟨kk, za, zb⟩ (fun hHeld => ?_)
  refine pure_ (i := 0) (N := (some 37)) (v := ?_) (a' := ?_) #[true, false, false, false, false, false, false, false, false, false, false, false, false, false, false, false, false, false, false, false, false, false, false, false, false, false, false, false, false] rfl rfl (by kernel_rfl) (fun _ _ _ h => h) (Or.inl ⟨by rfl, ?_⟩) ?_ ?_
  rotate_left
  · intro w'
    go_simp
    with_reducible rfl
  rotate_left
  · simp only [Act.put, List.setIfInBounds_toArray, List.set_cons_zero, List.set_cons_succ, i64_w, i32_w]
    rfl
  refine pure_ (i := 1) (N := (some 38)) (v := ?_) (a' := ?_) #[true, true, false, false, false, false, false, false, false, false, false, false, false, false, false, false, false, false, false, false, false, false, false, false, false, false, false, false, false] rfl rfl (by kernel_rfl) (fun _ _ _ h => h) (Or.inl ⟨by rfl, ?_⟩) ?_ ?_
  rotate_left
  · intro w'
    go_simp
    with_reducible rfl
  rotate_left
  · simp only [Act.put, List.setIfInBounds_toArray, List.set_cons_zero, List.set_cons_succ, i64_w, i32_w]
    rfl
  refine pure_ (i := 2) (N := (some 39)) (v := ?_) (a' := ?_) #[true, true, true, false, false, false, false, false, false, false, false, false, false, false, false, false, false, false, false, false, false, false, false, false, false, false, false, false, false] rfl rfl (by kernel_rfl) (fun _ _ _ h => h) (Or.inl ⟨by rfl, ?_⟩) ?_ ?_
  rotate_left
  · intro w'
    go_simp
    with_reducible rfl
  rotate_left
  · simp only [Act.put, List.setIfInBounds_toArray, List.set_cons_zero, List.set_cons_succ, i64_w, i32_w]
    rfl
  refine pure_ (i := 3) (N := (some 40)) (v := ?_) (a' := ?_) #[true, true, true, true, false, false, false, false, false, false, false, false, false, false, false, false, false, false, false, false, false, false, false, false, false, false, false, false, false] rfl rfl (by kernel_rfl) (fun _ _ _ h => h) (Or.inl ⟨by rfl, ?_⟩) ?_ ?_
  rotate_left
  · intro w'
    go_simp
    with_reducible rfl
  rotate_left
  · simp only [Act.put, List.setIfInBounds_toArray, List.set_cons_zero, List.set_cons_succ, i64_w, i32_w]
    rfl
  refine take_ (i := 4) (N := (some 41)) (v := ?_) (a' := ?_) #[true, true, true, true, true, false, false, false, false, false, false, false, false, false, false, false, false, false, false, false, false, false, false, false, false, false, false, false, false] rfl rfl (by kernel_rfl) (fun _ _ _ h => h) (Or.inl ⟨by rfl, ?_⟩) hHeld ?_ ?_
  rotate_left
  · rintro w' ⟨s0, s1, s2⟩
    go_simp
    with_reducible rfl
  rotate_left
  · simp only [Act.put, List.setIfInBounds_toArray, List.set_cons_zero, List.set_cons_succ, i64_w, i32_w]
    rfl
  refine pure_ (i := 5) (N := (some 42)) (v := ?_) (a' := ?_) #[true, true, true, true, true, true, false, false, false, false, false, false, false, false, false, false, false, false, false, false, false, false, false, false, false, false, false, false, false] rfl rfl (by kernel_rfl) (fun _ _ _ h => h) (Or.inl ⟨by rfl, ?_⟩) ?_ ?_
  rotate_left
  · intro w'
    go_simp
    with_reducible rfl
  rotate_left
  · simp only [Act.put, List.setIfInBounds_toArray, List.set_cons_zero, List.set_cons_succ, i64_w, i32_w]
    rfl
  refine pure_ (i := 6) (N := (some 43)) (v := ?_) (a' := ?_) #[true, true, true, true, true, true, true, false, false, false, false, false, false, false, false, false, false, false, false, false, false, false, false, false, false, false, false, false, false] rfl rfl (by kernel_rfl) (fun _ _ _ h => h) (Or.inl ⟨by rfl, ?_⟩) ?_ ?_
  rotate_left
  · intro w'
    go_simp
    with_reducible rfl
  rotate_left
  · simp only [Act.put, List.setIfInBounds_toArray, List.set_cons_zero, List.set_cons_succ, i64_w, i32_w]
    rfl
  refine pure_ (i := 7) (N := (some 44)) (v := ?_) (a' := ?_) #[true, true, true, true, true, true, true, true, false, false, false, false, false, false, false, false, false, false, false, false, false, false, false, false, false, false, false, false, false] rfl rfl (by kernel_rfl) (fun _ _ _ h => h) (Or.inl ⟨by rfl, ?_⟩) ?_ ?_
  rotate_left
  · intro w'
    go_simp
    with_reducible rfl
  rotate_left
  · simp only [Act.put, List.setIfInBounds_toArray, List.set_cons_zero, List.set_cons_succ, i64_w, i32_w]
    rfl
  refine pure_ (i := 8) (N := (some 45)) (v := ?_) (a' := ?_) #[true, true, true, true, true, true, true, true, true, false, false, false, false, false, false, false, false, false, false, false, false, false, false, false, false, false, false, false, false] rfl rfl (by kernel_rfl) (fun _ _ _ h => h) (Or.inl ⟨by rfl, ?_⟩) ?_ ?_
  rotate_left
  · intro w'
    go_simp
    with_reducible rfl
  rotate_left
  · simp only [Act.put, List.setIfInBounds_toArray, List.set_cons_zero, List.set_cons_succ, i64_w, i32_w]
    rfl
  refine pure_ (i := 9) (N := (some 46)) (v := ?_) (a' := ?_) #[true, true, true, true, true, true, true, true, true, true, false, false, false, false, false, false, false, false, false, false, false, false, false, false, false, false, false, false, false] rfl rfl (by kernel_rfl) (fun _ _ _ h => h) (Or.inl ⟨by rfl, ?_⟩) ?_ ?_
  rotate_left
  · intro w'
    go_simp
    with_reducible rfl
  rotate_left
  · simp only [Act.put, List.setIfInBounds_toArray, List.set_cons_zero, List.set_cons_succ, i64_w, i32_w]
    rfl
  refine pure_ (i := 10) (N := (some 47)) (v := ?_) (a' := ?_) #[true, true, true, true, true, true, true, true, true, true, true, false, false, false, false, false, false, false, false, false, false, false, false, false, false, false, false, false, false] rfl rfl (by kernel_rfl) (fun _ _ _ h => h) (Or.inl ⟨by rfl, ?_⟩) ?_ ?_
  rotate_left
  · intro w'
    go_simp
    with_reducible rfl
  rotate_left
  · simp only [Act.put, List.setIfInBounds_toArray, List.set_cons_zero, List.set_cons_succ, i64_w, i32_w]
    rfl
  refine take_ (i := 11) (N := (some 48)) (v := ?_) (a' := ?_) #[true, true, true, true, true, true, true, true, true, true, true, true, false, false, false, false, false, false, false, false, false, false, false, false, false, false, false, false, false] rfl rfl (by kernel_rfl) (fun _ _ _ h => h) (Or.inl ⟨by rfl, ?_⟩) hHeld ?_ ?_
  rotate_left
  · rintro w' ⟨s0, s1, s2⟩
    go_simp
    with_reducible rfl
  rotate_left
  · simp only [Act.put, List.setIfInBounds_toArray, List.set_cons_zero, List.set_cons_succ, i64_w, i32_w]
    rfl
  refine pure_ (i := 12) (N := (some 49)) (v := ?_) (a' := ?_) #[true, true, true, true, true, true, true, true, true, true, true, true, true, false, false, false, false, false, false, false, false, false, false, false, false, false, false, false, false] rfl rfl (by kernel_rfl) (fun _ _ _ h => h) (Or.inl ⟨by rfl, ?_⟩) ?_ ?_
  rotate_left
  · intro w'
    go_simp
    with_reducible rfl
  rotate_left
  · simp only [Act.put, List.setIfInBounds_toArray, List.set_cons_zero, List.set_cons_succ, i64_w, i32_w]
    rfl
  refine pure_ (i := 13) (N := (some 50)) (v := ?_) (a' := ?_) #[true, true, true, true, true, true, true, true, true, true, true, true, true, true, false, false, false, false, false, false, false, false, false, false, false, false, false, false, false] rfl rfl (by kernel_rfl) (fun _ _ _ h => h) (Or.inl ⟨by rfl, ?_⟩) ?_ ?_
  rotate_left
  · intro w'
    go_simp
    with_reducible rfl
  rotate_left
  · simp only [Act.put, List.setIfInBounds_toArray, List.set_cons_zero, List.set_cons_succ, i64_w, i32_w]
    rfl
  refine take_ (i := 14) (N := (some 51)) (v := ?_) (a' := ?_) #[true, true, true, true, true, true, true, true, true, true, true, true, true, true, true, false, false, false, false, false, false, false, false, false, false, false, false, false, false] rfl rfl (by kernel_rfl) (fun _ _ _ h => h) (Or.inl ⟨by rfl, ?_⟩) hHeld ?_ ?_
  rotate_left
  · rintro w' ⟨s0, s1, s2⟩
    go_simp
    with_reducible rfl
  rotate_left
  · simp only [Act.put, List.setIfInBounds_toArray, List.set_cons_zero, List.set_cons_succ, i64_w, i32_w]
    rfl
  refine pure_ (i := 15) (N := (some 52)) (v := ?_) (a' := ?_) #[true, true, true, true, true, true, true, true, true, true, true, true, true, true, true, true, false, false, false, false, false, false, false, false, false, false, false, false, false] rfl rfl (by kernel_rfl) (fun _ _ _ h => h) (Or.inl ⟨by rfl, ?_⟩) ?_ ?_
  rotate_left
  · intro w'
    go_simp
    with_reducible rfl
  rotate_left
  · simp only [Act.put, List.setIfInBounds_toArray, List.set_cons_zero, List.set_cons_succ, i64_w, i32_w]
    rfl
  refine pure_ (i := 16) (N := (some 53)) (v := ?_) (a' := ?_) #[true, true, true, true, true, true, true, true, true, true, true, true, true, true, true, true, true, false, false, false, false, false, false, false, false, false, false, false, false] rfl rfl (by kernel_rfl) (fun _ _ _ h => h) (Or.inl ⟨by rfl, ?_⟩) ?_ ?_
  rotate_left
  · intro w'
    go_simp
    with_reducible rfl
  rotate_left
  · simp only [Act.put, List.setIfInBounds_toArray, List.set_cons_zero, List.set_cons_succ, i64_w, i32_w]
    rfl
  refine pure_ (i := 17) (N := (some 54)) (v := ?_) (a' := ?_) #[true, true, true, true, true, true, true, true, true, true, true, true, true, true, true, true, true, true, false, false, false, false, false, false, false, false, false, false, false] rfl rfl (by kernel_rfl) (fun _ _ _ h => h) (Or.inl ⟨by rfl, ?_⟩) ?_ ?_
  rotate_left
  · intro w'
    go_simp
    with_reducible rfl
  rotate_left
  · simp only [Act.put, List.setIfInBounds_toArray, List.set_cons_zero, List.set_cons_succ, i64_w, i32_w]
    rfl
  refine take_ (i := 18) (N := (some 55)) (v := ?_) (a' := ?_) #[true, true, true, true, true, true, true, true, true, true, true, true, true, true, true, true, true, true, true, false, false, false, false, false, false, false, false, false, false] rfl rfl (by kernel_rfl) (fun _ _ _ h => h) (Or.inl ⟨by rfl, ?_⟩) hHeld ?_ ?_
  rotate_left
  · rintro w' ⟨s0, s1, s2⟩
    go_simp
    with_reducible rfl
  rotate_left
  · simp only [Act.put, List.setIfInBounds_toArray, List.set_cons_zero, List.set_cons_succ, i64_w, i32_w]
    rfl
  refine pure_ (i := 19) (N := (some 56)) (v := ?_) (a' := ?_) #[true, true, true, true, true, true, true, true, true, true, true, true, true, true, true, true, true, true, true, true, false, false, false, false, false, false, false, false, false] rfl rfl (by kernel_rfl) (fun _ _ _ h => h) (Or.inl ⟨by rfl, ?_⟩) ?_ ?_
  rotate_left
  · intro w'
    go_simp
    with_reducible rfl
  rotate_left
  · simp only [Act.put, List.setIfInBounds_toArray, List.set_cons_zero, List.set_cons_succ, i64_w, i32_w]
    rfl
  refine pure_ (i := 20) (N := (some 57)) (v := ?_) (a' := ?_) #[true, true, true, true, true, true, true, true, true, true, true, true, true, true, true, true, true, true, true, true, true, false, false, false, false, false, false, false, false] rfl rfl (by kernel_rfl) (fun _ _ _ h => h) (Or.inl ⟨by rfl, ?_⟩) ?_ ?_
  rotate_left
  · intro w'
    go_simp
    with_reducible rfl
  rotate_left
  · simp only [Act.put, List.setIfInBounds_toArray, List.set_cons_zero, List.set_cons_succ, i64_w, i32_w]
    rfl
  refine pure_ (i := 21) (N := (some 58)) (v := ?_) (a' := ?_) #[true, true, true, true, true, true, true, true, true, true, true, true, true, true, true, true, true, true, true, true, true, true, false, false, false, false, false, false, false] rfl rfl (by kernel_rfl) (fun _ _ _ h => h) (Or.inl ⟨by rfl, ?_⟩) ?_ ?_
  rotate_left
  · intro w'
    go_simp
    with_reducible rfl
  rotate_left
  · simp only [Act.put, List.setIfInBounds_toArray, List.set_cons_zero, List.set_cons_succ, i64_w, i32_w]
    rfl
  refine take_ (i := 22) (N := (some 59)) (v := ?_) (a' := ?_) #[true, true, true, true, true, true, true, true, true, true, true, true, true, true, true, true, true, true, true, true, true, true, true, false, false, false, false, false, false] rfl rfl (by kernel_rfl) (fun _ _ _ h => h) (Or.inl ⟨by rfl, ?_⟩) hHeld ?_ ?_
  rotate_left
  · rintro w' ⟨s0, s1, s2⟩
    go_simp
    with_reducible rfl
  rotate_left
  · simp only [Act.put, List.setIfInBounds_toArray, List.set_cons_zero, List.set_cons_succ, i64_w, i32_w]
    rfl
  refine pure_ (i := 23) (N := (some 60)) (v := ?_) (a' := ?_) #[true, true, true, true, true, true, true, true, true, true, true, true, true, true, true, true, true, true, true, true, true, true, true, true, false, false, false, false, false] rfl rfl (by kernel_rfl) (fun _ _ _ h => h) (Or.inl ⟨by rfl, ?_⟩) ?_ ?_
  rotate_left
  · intro w'
    go_simp
    with_reducible rfl
  rotate_left
  · simp only [Act.put, List.setIfInBounds_toArray, List.set_cons_zero, List.set_cons_succ, i64_w, i32_w]
    rfl
  have bC : Bw W4 ((W4.alloc (.cells #[.int .i64 (t0 + t1)] 3)).drew) := (Bw.box1 W4 (.cells #[.int .i64 (t0 + t1)] 3)).trans (Bw.drawn ⟨⟨1, rfl⟩⟩)
  have hv : ((W4.alloc (.cells #[.int .i64 (t0 + t1)] 3)).drew).heap[(W4.drewN 1).heap.size]? = some (.cells #[.int .i64 (t0 + t1)] 3 (0, 0)) := heap_alloc_new W4 (.cells #[.int .i64 (t0 + t1)] 3 (0, 0))
  refine one_ (i := 24) (N := (some 61)) #[true, true, true, true, true, true, true, true, true, true, true, true, true, true, true, true, true, true, true, true, true, true, true, true, true, false, false, false, false] rfl rfl (by kernel_rfl) (by decide) (fun K hK => ?_)
  refine value_ (w1 := ?_) (v := ?_) (by rfl) rfl ?_ ?_
  rotate_left 2
  · go_simp
    constructor
    · rfl
    · rfl
  refine hK.out _ _ ⟨pw_cell_below bC.out kk, pw_cell_below bC.out za, pw_cell_below bC.out zb⟩ (fun hHeld => ?_)
  clear hK K
  refine norm_ (a' := ?_) ?_ ?_
  rotate_left
  · show Act.put _ (some 61) _ = _
    simp only [Act.put, List.setIfInBounds_toArray, List.set_cons_zero, List.set_cons_succ, i64_w, i32_w]
    rfl
  clear hHeld
  have h5 := h4.out.to bC
  have hne : (Value.slice (some a3) n c3).ownBlock ≠ some (W4.drewN 1).heap.size := fun e => by have := own_lt (h4.out.to bD).t.out _ e; omega
  have hfk := hid (Fk.bw bC h4.out.kw)
  generalize ((W4.alloc (.cells #[.int .i64 (t0 + t1)] 3)).drew) = w5 at *
  refine last_ (i := 25) (N := (some 62)) #[true, true, true, true, true, true, true, true, true, true, true, true, true, true, true, true, true, true, true, true, true, true, true, true, true, true, false, false, false] rfl rfl (by kernel_rfl) (by decide) (fun K hK => ?_)
  refine goes_ Try.func60 (by kernel_rfl) rfl #[.slice (some a3) n c3, .int .i64 (i : Int), .int .i64 ((i : Int) + 2), .slice (some ⟨(W4.drewN 1).heap.size, 0, none⟩) 1 1] (by rfl) rfl rfl (by (try simp only [List.map_toArray, List.map_cons, List.map_nil]); first | done | rfl) ?_
  refine (rep1_I 0 n i (W4.drewN 1).heap.size (.slice (some a3) n c3) s.ts [t0 + t1] w5 (by have := h5.t; simp only at this; rw [HTS.out] at this; exact this) HI.out HN2.out hv rfl hne).mono ?_
  rintro e w6 ⟨v6, rfl, ho, hg, hown⟩
  refine ⟨_, rfl, ?_⟩
  obtain ⟨A6, c6, rfl, _, _⟩ := FO.reads ho
  have hq := hid (h5.put_t (l' := merM s.ts i (t0 + t1)) (by rw [merM_length (by rw [HTS.out]; exact HI.out), HTS.out]; exact ho) hg (Or.inl hown))
  have hst := blk_grown h5.st hg (own_ne h5.t.out h5.st (by decide))
  have s3 := (blk_cell hst 3).trans (show _ = some (Value.slice (some a3) n c3) from rfl)
  have f3 := blk_frozen hst 3
  clear ho hg hown hst h5 hv hne kk za zb
  refine hK.out _ _ ?_
  clear hK K
  refine norm_ (a' := ?_) ?_ ?_
  rotate_left
  · show Act.put _ (some 62) _ = _
    simp only [Act.put, List.setIfInBounds_toArray, List.set_cons_zero, List.set_cons_succ, i64_w, i32_w]
    rfl
  refine pure_ (i := 26) (N := (some 63)) (v := ?_) (a' := ?_) #[true, true, true, true, true, true, true, true, true, true, true, true, true, true, true, true, true, true, true, true, true, true, true, true, true, true, true, false, false] rfl rfl (by kernel_rfl) (fun _ _ _ h => h) (Or.inl ⟨by rfl, ?_⟩) ?_ ?_
  rotate_left
  · intro w'
    go_simp
    with_reducible rfl
  rotate_left
  · simp only [Act.put, List.setIfInBounds_toArray, List.set_cons_zero, List.set_cons_succ, i64_w, i32_w]
    rfl
  refine pure_ (i := 27) (N := (some 64)) (v := ?_) (a' := ?_) #[true, true, true, true, true, true, true, true, true, true, true, true, true, true, true, true, true, true, true, true, true, true, true, true, true, true, true, true, false] rfl rfl (by kernel_rfl) (fun _ _ _ h => h) (Or.inl ⟨by rfl, ?_⟩) ?_ ?_
  rotate_left
  · intro w'
    go_simp
    with_reducible rfl
  rotate_left
  · simp only [Act.put, List.setIfInBounds_toArray, List.set_cons_zero, List.set_cons_succ, i64_w, i32_w]
    rfl
  refine last_ (i := 28) (N := none) #[true, true, true, true, true, true, true, true, true, true, true, true, true, true, true, true, true, true, true, true, true, true, true, true, true, true, true, true, true] rfl rfl (by kernel_rfl) (by decide) (fun K hK => ?_)
  refine skip_ (w1 := ?_) (by rfl) rfl ?_ ?_
  rotate_left
  · go_simp
    rfl
  refine hK.out _ _ ?_
  clear hK K
  refine done_ (by kernel_rfl) ?_
  have hF := HF4.out.trans (hfk.out.trans hq.out.2)
  go_wp2
  exact bodyPost_end (v := .tuple #[]) (by simp [results, Try.results34, go_sem]) rfl ⟨⟨_, rfl⟩, by rw [HRS.out]; exact ⟨_, _, _, _, hq.out.1⟩, hF⟩
end Go.Proofs.Ytaidbdogolhnjaa.U
