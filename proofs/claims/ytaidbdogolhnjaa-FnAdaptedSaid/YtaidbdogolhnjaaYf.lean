
/- mayCoarsen. -/
import Derived.Test.YtaidbdogolhnjaaYe
import Derived.Test.YtaidbdogolhnjaaG5
set_option linter.unusedVariables false
set_option linter.unusedSimpArgs false
namespace Go.Proofs.Ytaidbdogolhnjaa.U
open Go.RowKit Go.Lib Go.Proofs.YtaidbdogolhnjaaW.PrintWords

open Go.Proofs.YtaidbdogolhnjaaW.PrintLast Go.Proofs.YtaidbdogolhnjaaW.PrintMore
def mayB (l : List Ce) (i : Nat) : Bool := sibB (gc l i) (gc l (i + 1)) && (!(decide (0 < i) && decide ((gc l (i - 1)).l > (gc l i).l)) && !(decide (i + 2 < l.length) && decide ((gc l (i + 2)).l > (gc l i).l)))
set_option maxHeartbeats 8000000 in
set_option maxRecDepth 100000 in
theorem impl_mayCoarsen (ro : Int) (A : Option Addr) (n c : Nat) (l : List Ce) (i : Nat) (w : World) (r : IdR w A n l) (hi : i + 1 < n) (hn : n ≤ 1000) :
    Calls Try.prog 62 #[.agg #[.int .i64 ro, .slice A n c], .int .i64 i] w fun e w' => e = .returned (.bool (mayB l i)) ∧ Bw w w' := by
  have HMX := hid r.max
  have HL := hid r.len
  have b0 := Bw.box1 w (.cells #[.int .i64 ro, .slice A n c] 26)
  have g0 := box_cell (Bw.refl (w.alloc (.cells #[.int .i64 ro, .slice A n c] 26))) 0
  have g1 := box_cell (Bw.refl (w.alloc (.cells #[.int .i64 ro, .slice A n c] 26))) 1
  simp only [List.getElem?_toArray, List.getElem?_cons_zero, List.getElem?_cons_succ] at g0 g1
  have HR1 := hid (r.to b0)
  obtain ⟨ad, rfl, x0, x1, x2⟩ := (r.to b0).at i (by omega)
  obtain ⟨_, ea, y0, y1, y2⟩ := (r.to b0).at (i + 1) hi
  obtain rfl := Option.some.inj ea
  obtain ⟨p0, p1, p2, hp⟩ : ∃ p0 p1 p2, gc l i = ⟨p0, p1, p2⟩ := ⟨_, _, _, rfl⟩
  obtain ⟨q0, q1, q2, hq⟩ : ∃ q0 q1 q2, gc l (i + 1) = ⟨q0, q1, q2⟩ := ⟨_, _, _, rfl⟩
  rw [hp] at x0 x1 x2
  rw [hq] at y0 y1 y2
  simp only at x0 x1 x2 y0 y1 y2
  have HP := hid hp
  have HQ := hid hq
  have H1 := hid (show inR (i : Int) 0 ((n : Int) - 1) = true from inR_iff.2 (by omega))
  have H2 := hid (show inR ((i : Int) + 1) 0 ((n : Int) - 1) = true from inR_iff.2 (by omega))
  have i4 : (0 : Int) ≤ (i : Int) := by omega
  have i5 : (i : Int) < (n : Int) := by omega
  have i6 : (0 : Int) ≤ (i : Int) + 1 := by omega
  have i7 : (i : Int) + 1 < (n : Int) := by omega
  have e1 : IntKind.i64.wrap ((i : Int) + 1) = (i : Int) + 1 := i64w (by omega) (by omega)
  have e2 : IntKind.i64.wrap ((i : Int) + 2) = (i : Int) + 2 := by clear e1; exact i64w (by omega) (by omega)
  have e3 : IntKind.i64.wrap ((i : Int) - 1) = (i : Int) - 1 := by clear e1 e2; exact i64w (by omega) (by omega)
  have htn : ((i : Int) + 1).toNat = i + 1 := by clear e1 e2 e3; omega
  have htn2 : ((i : Int) + 2).toNat = i + 2 := by clear e1 e2 e3; omega
  obtain ⟨sb, hsb⟩ : ∃ sb, sibB ⟨p0, p1, p2⟩ ⟨q0, q1, q2⟩ = sb := ⟨_, rfl⟩
  have HSB := hid hsb
  have HR := hid (show mayB l i = (sb && (!(decide (0 < i) && decide ((gc l (i - 1)).l > p1)) && !(decide (i + 2 < n) && decide ((gc l (i + 2)).l > p1)))) by rw [mayB, hp, hq, hsb, HL.out])
  have HB := hid b0
  have HI := hid (show i < n ∧ n ≤ 1000 by omega)
  clear hp hq hsb ea r b0 hi hn
  go_enter Try.func62, Try.ntmps62
  go_upto_region 1 with fail
  generalize (w.alloc (.cells #[.int .i64 ro, .slice (some ad) n c] 26)) = W1 at *
  have bD := Bw.drawn (a := W1) ⟨⟨1, rfl⟩⟩
  refine start_ (n := 26) (S := fun w' => w'.cell? ⟨w.heap.size, 0, none⟩ = some (.int .i64 ro) ∧ w'.cell? ⟨w.heap.size, 1, none⟩ = some (.slice (some ad) n c) ∧ w'.cell? (ad.add (i * 3)) = some (.int .i64 p0) ∧ w'.cell? ⟨(ad.add (i * 3)).block, (ad.add (i * 3)).off + 1, none⟩ = some (.int .i64 p1) ∧ w'.cell? ⟨(ad.add (i * 3)).block, (ad.add (i * 3)).off + 2, none⟩ = some (.int .i64 p2) ∧ w'.cell? (ad.add ((i + 1) * 3)) = some (.int .i64 q0) ∧ w'.cell? ⟨(ad.add ((i + 1) * 3)).block, (ad.add ((i + 1) * 3)).off + 1, none⟩ = some (.int .i64 q1) ∧ w'.cell? ⟨(ad.add ((i + 1) * 3)).block, (ad.add ((i + 1) * 3)).off + 2, none⟩ = some (.int .i64 q2)) (ds := []) #[false, false, false, false, false, false, false, false, false, false, false, false, false, false, false, false, false, false, false, false, false, false, false, false, false, false] (by kernel_rfl) rfl rfl ⟨g0, g1, x0, x1, x2, y0, y1, y2⟩ (fun hHeld => ?_)
  refine take_ (i := 0) (N := (some 6)) (v := ?_) (a' := ?_) #[true, false, false, false, false, false, false, false, false, false, false, false, false, false, false, false, false, false, false, false, false, false, false, false, false, false] rfl rfl (by kernel_rfl) (fun _ _ _ h => h) (Or.inl ⟨by rfl, ?_⟩) hHeld ?_ ?_
  rotate_left
  · rintro w' ⟨s0, s1, s2, s3, s4, s5, s6, s7⟩
    go_simp
    with_reducible rfl
  rotate_left
  · simp only [Act.put, List.setIfInBounds_toArray, List.set_cons_zero, List.set_cons_succ, i64_w, i32_w]
    rfl
  refine pure_ (i := 1) (N := (some 7)) (v := ?_) (a' := ?_) #[true, true, false, false, false, false, false, false, false, false, false, false, false, false, false, false, false, false, false, false, false, false, false, false, false, false] rfl rfl (by kernel_rfl) (fun _ _ _ h => h) (Or.inl ⟨by rfl, ?_⟩) ?_ ?_
  rotate_left
  · intro w'
    go_simp
    with_reducible rfl
  rotate_left
  · simp only [Act.put, List.setIfInBounds_toArray, List.set_cons_zero, List.set_cons_succ, i64_w, i32_w]
    rfl
  refine one_ (i := 2) (N := (some 8)) #[true, true, true, false, false, false, false, false, false, false, false, false, false, false, false, false, false, false, false, false, false, false, false, false, false, false] rfl rfl (by kernel_rfl) (by decide) (fun K hK => ?_)
  refine goes_ Try.func56 (by kernel_rfl) rfl #[.agg #[.int .i64 ro, .slice (some ad) n c], .int .i64 (i : Int)] (by rfl) rfl rfl (by (try simp only [List.map_toArray, List.map_cons, List.map_nil]); first | done | rfl) ?_
  refine (impl_has ro (some ad) n c (i : Int) _ HMX.out).mono ?_
  rintro e wa ⟨rfl, ba⟩
  refine ⟨_, rfl, ?_⟩
  rw [H1.out]
  have bA := bD.trans ba
  refine hK.out _ _ ⟨pw_cell_below bA.out g0, pw_cell_below bA.out g1, pw_cell_below bA.out x0, pw_cell_below bA.out x1, pw_cell_below bA.out x2, pw_cell_below bA.out y0, pw_cell_below bA.out y1, pw_cell_below bA.out y2⟩ (fun hHeld => ?_)
  clear hK K
  refine norm_ (a' := ?_) ?_ ?_
  rotate_left
  · show Act.put _ (some 8) _ = _
    simp only [Act.put, List.setIfInBounds_toArray, List.set_cons_zero, List.set_cons_succ, i64_w, i32_w]
    rfl
  refine pure_ (i := 3) (N := (some 9)) (v := ?_) (a' := ?_) #[true, true, true, true, false, false, false, false, false, false, false, false, false, false, false, false, false, false, false, false, false, false, false, false, false, false] rfl rfl (by kernel_rfl) (fun _ _ _ h => h) (Or.inl ⟨by rfl, ?_⟩) ?_ ?_
  rotate_left
  · intro w'
    go_simp
    with_reducible rfl
  rotate_left
  · simp only [Act.put, List.setIfInBounds_toArray, List.set_cons_zero, List.set_cons_succ, i64_w, i32_w]
    rfl
  refine pure_ (i := 4) (N := (some 10)) (v := ?_) (a' := ?_) #[true, true, true, true, true, false, false, false, false, false, false, false, false, false, false, false, false, false, false, false, false, false, false, false, false, false] rfl rfl (by kernel_rfl) (fun _ _ _ h => h) (Or.inl ⟨by rfl, ?_⟩) ?_ ?_
  rotate_left
  · intro w'
    go_simp
    with_reducible rfl
  rotate_left
  · simp only [Act.put, List.setIfInBounds_toArray, List.set_cons_zero, List.set_cons_succ, i64_w, i32_w]
    rfl
  refine take_ (i := 5) (N := (some 11)) (v := ?_) (a' := ?_) #[true, true, true, true, true, true, false, false, false, false, false, false, false, false, false, false, false, false, false, false, false, false, false, false, false, false] rfl rfl (by kernel_rfl) (fun _ _ _ h => h) (Or.inl ⟨by rfl, ?_⟩) hHeld ?_ ?_
  rotate_left
  · rintro w' ⟨s0, s1, s2, s3, s4, s5, s6, s7⟩
    go_simp
    with_reducible rfl
  rotate_left
  · simp only [Act.put, List.setIfInBounds_toArray, List.set_cons_zero, List.set_cons_succ, i64_w, i32_w]
    rfl
  refine pure_ (i := 6) (N := (some 12)) (v := ?_) (a' := ?_) #[true, true, true, true, true, true, true, false, false, false, false, false, false, false, false, false, false, false, false, false, false, false, false, false, false, false] rfl rfl (by kernel_rfl) (fun _ _ _ h => h) (Or.inl ⟨by rfl, ?_⟩) ?_ ?_
  rotate_left
  · intro w'
    go_simp
    with_reducible rfl
  rotate_left
  · simp only [Act.put, List.setIfInBounds_toArray, List.set_cons_zero, List.set_cons_succ, i64_w, i32_w]
    rfl
  refine pure_ (i := 7) (N := (some 13)) (v := ?_) (a' := ?_) #[true, true, true, true, true, true, true, true, false, false, false, false, false, false, false, false, false, false, false, false, false, false, false, false, false, false] rfl rfl (by kernel_rfl) (fun _ _ _ h => h) (Or.inl ⟨by rfl, ?_⟩) ?_ ?_
  rotate_left
  · intro w'
    go_simp
    with_reducible rfl
  rotate_left
  · simp only [Act.put, List.setIfInBounds_toArray, List.set_cons_zero, List.set_cons_succ, i64_w, i32_w]
    rfl
  refine one_ (i := 8) (N := (some 14)) #[true, true, true, true, true, true, true, true, true, false, false, false, false, false, false, false, false, false, false, false, false, false, false, false, false, false] rfl rfl (by kernel_rfl) (by decide) (fun K hK => ?_)
  refine goes_ Try.func56 (by kernel_rfl) rfl #[.agg #[.int .i64 ro, .slice (some ad) n c], .int .i64 ((i : Int) + 1)] (by rfl) rfl rfl (by (try simp only [List.map_toArray, List.map_cons, List.map_nil]); first | done | rfl) ?_
  refine (impl_has ro (some ad) n c ((i : Int) + 1) _ HMX.out).mono ?_
  rintro e wb ⟨rfl, bb⟩
  refine ⟨_, rfl, ?_⟩
  rw [H2.out]
  have bB := bA.trans bb
  refine hK.out _ _ ⟨pw_cell_below bB.out g0, pw_cell_below bB.out g1, pw_cell_below bB.out x0, pw_cell_below bB.out x1, pw_cell_below bB.out x2, pw_cell_below bB.out y0, pw_cell_below bB.out y1, pw_cell_below bB.out y2⟩ (fun hHeld => ?_)
  clear hK K
  refine norm_ (a' := ?_) ?_ ?_
  rotate_left
  · show Act.put _ (some 14) _ = _
    simp only [Act.put, List.setIfInBounds_toArray, List.set_cons_zero, List.set_cons_succ, i64_w, i32_w]
    rfl
  refine pure_ (i := 9) (N := (some 15)) (v := ?_) (a' := ?_) #[true, true, true, true, true, true, true, true, true, true, false, false, false, false, false, false, false, false, false, false, false, false, false, false, false, false] rfl rfl (by kernel_rfl) (fun _ _ _ h => h) (Or.inl ⟨by rfl, ?_⟩) ?_ ?_
  rotate_left
  · intro w'
    go_simp
    with_reducible rfl
  rotate_left
  · simp only [Act.put, List.setIfInBounds_toArray, List.set_cons_zero, List.set_cons_succ, i64_w, i32_w]
    rfl
  refine pure_ (i := 10) (N := (some 16)) (v := ?_) (a' := ?_) #[true, true, true, true, true, true, true, true, true, true, true, false, false, false, false, false, false, false, false, false, false, false, false, false, false, false] rfl rfl (by kernel_rfl) (fun _ _ _ h => h) (Or.inl ⟨by rfl, ?_⟩) ?_ ?_
  rotate_left
  · intro w'
    go_simp
    with_reducible rfl
  rotate_left
  · simp only [Act.put, List.setIfInBounds_toArray, List.set_cons_zero, List.set_cons_succ, i64_w, i32_w]
    rfl
  refine pure_ (i := 11) (N := (some 17)) (v := ?_) (a' := ?_) #[true, true, true, true, true, true, true, true, true, true, true, true, false, false, false, false, false, false, false, false, false, false, false, false, false, false] rfl rfl (by kernel_rfl) (fun _ _ _ h => h) (Or.inl ⟨by rfl, ?_⟩) ?_ ?_
  rotate_left
  · intro w'
    go_simp
    with_reducible rfl
  rotate_left
  · simp only [Act.put, List.setIfInBounds_toArray, List.set_cons_zero, List.set_cons_succ, i64_w, i32_w]
    rfl
  refine pure_ (i := 12) (N := (some 18)) (v := ?_) (a' := ?_) #[true, true, true, true, true, true, true, true, true, true, true, true, true, false, false, false, false, false, false, false, false, false, false, false, false, false] rfl rfl (by kernel_rfl) (fun _ _ _ h => h) (Or.inl ⟨by rfl, ?_⟩) ?_ ?_
  rotate_left
  · intro w'
    go_simp
    with_reducible rfl
  rotate_left
  · simp only [Act.put, List.setIfInBounds_toArray, List.set_cons_zero, List.set_cons_succ, i64_w, i32_w]
    rfl
  refine take_ (i := 13) (N := (some 19)) (v := ?_) (a' := ?_) #[true, true, true, true, true, true, true, true, true, true, true, true, true, true, false, false, false, false, false, false, false, false, false, false, false, false] rfl rfl (by kernel_rfl) (fun _ _ _ h => h) (Or.inl ⟨by rfl, ?_⟩) hHeld ?_ ?_
  rotate_left
  · rintro w' ⟨s0, s1, s2, s3, s4, s5, s6, s7⟩
    go_simp
    with_reducible rfl
  rotate_left
  · simp only [Act.put, List.setIfInBounds_toArray, List.set_cons_zero, List.set_cons_succ, i64_w, i32_w]
    rfl
  refine pure_ (i := 14) (N := (some 20)) (v := ?_) (a' := ?_) #[true, true, true, true, true, true, true, true, true, true, true, true, true, true, true, false, false, false, false, false, false, false, false, false, false, false] rfl rfl (by kernel_rfl) (fun _ _ _ h => h) (Or.inl ⟨by rfl, ?_⟩) ?_ ?_
  rotate_left
  · intro w'
    go_simp
    with_reducible rfl
  rotate_left
  · simp only [Act.put, List.setIfInBounds_toArray, List.set_cons_zero, List.set_cons_succ, i64_w, i32_w]
    rfl
  refine pure_ (i := 15) (N := (some 21)) (v := ?_) (a' := ?_) #[true, true, true, true, true, true, true, true, true, true, true, true, true, true, true, true, false, false, false, false, false, false, false, false, false, false] rfl rfl (by kernel_rfl) (fun _ _ _ h => h) (Or.inl ⟨by rfl, ?_⟩) ?_ ?_
  rotate_left
  · intro w'
    go_simp
    with_reducible rfl
  rotate_left
  · simp only [Act.put, List.setIfInBounds_toArray, List.set_cons_zero, List.set_cons_succ, i64_w, i32_w]
    rfl
  refine take_ (i := 16) (N := (some 22)) (v := ?_) (a' := ?_) #[true, true, true, true, true, true, true, true, true, true, true, true, true, true, true, true, true, false, false, false, false, false, false, false, false, false] rfl rfl (by kernel_rfl) (fun _ _ _ h => h) (Or.inl ⟨by rfl, ?_⟩) hHeld ?_ ?_
  rotate_left
  · rintro w' ⟨s0, s1, s2, s3, s4, s5, s6, s7⟩
    go_simp
    with_reducible rfl
  rotate_left
  · simp only [Act.put, List.setIfInBounds_toArray, List.set_cons_zero, List.set_cons_succ, i64_w, i32_w]
    rfl
  refine pure_ (i := 17) (N := (some 23)) (v := ?_) (a' := ?_) #[true, true, true, true, true, true, true, true, true, true, true, true, true, true, true, true, true, true, false, false, false, false, false, false, false, false] rfl rfl (by kernel_rfl) (fun _ _ _ h => h) (Or.inl ⟨by rfl, ?_⟩) ?_ ?_
  rotate_left
  · intro w'
    go_simp
    with_reducible rfl
  rotate_left
  · simp only [Act.put, List.setIfInBounds_toArray, List.set_cons_zero, List.set_cons_succ, i64_w, i32_w]
    rfl
  refine take_ (i := 18) (N := (some 24)) (v := ?_) (a' := ?_) #[true, true, true, true, true, true, true, true, true, true, true, true, true, true, true, true, true, true, true, false, false, false, false, false, false, false] rfl rfl (by kernel_rfl) (fun _ _ _ h => h) (Or.inl ⟨by rfl, ?_⟩) hHeld ?_ ?_
  rotate_left
  · rintro w' ⟨s0, s1, s2, s3, s4, s5, s6, s7⟩
    go_simp
    with_reducible rfl
  rotate_left
  · simp only [Act.put, List.setIfInBounds_toArray, List.set_cons_zero, List.set_cons_succ, i64_w, i32_w]
    rfl
  refine pure_ (i := 19) (N := (some 25)) (v := ?_) (a' := ?_) #[true, true, true, true, true, true, true, true, true, true, true, true, true, true, true, true, true, true, true, true, false, false, false, false, false, false] rfl rfl (by kernel_rfl) (fun _ _ _ h => h) (Or.inl ⟨by rfl, ?_⟩) ?_ ?_
  rotate_left
  · intro w'
    go_simp
    with_reducible rfl
  rotate_left
  · simp only [Act.put, List.setIfInBounds_toArray, List.set_cons_zero, List.set_cons_succ, i64_w, i32_w]
    rfl
  refine pure_ (i := 20) (N := (some 26)) (v := ?_) (a' := ?_) #[true, true, true, true, true, true, true, true, true, true, true, true, true, true, true, true, true, true, true, true, true, false, false, false, false, false] rfl rfl (by kernel_rfl) (fun _ _ _ h => h) (Or.inl ⟨by rfl, ?_⟩) ?_ ?_
  rotate_left
  · intro w'
    go_simp
    with_reducible rfl
  rotate_left
  · simp only [Act.put, List.setIfInBounds_toArray, List.set_cons_zero, List.set_cons_succ, i64_w, i32_w]
    rfl
  refine pure_ (i := 21) (N := (some 27)) (v := ?_) (a' := ?_) #[true, true, true, true, true, true, true, true, true, true, true, true, true, true, true, true, true, true, true, true, true, true, false, false, false, false] rfl rfl (by kernel_rfl) (fun _ _ _ h => h) (Or.inl ⟨by rfl, ?_⟩) ?_ ?_
  rotate_left
  · intro w'
    go_simp
    with_reducible rfl
  rotate_left
  · simp only [Act.put, List.setIfInBounds_toArray, List.set_cons_zero, List.set_cons_succ, i64_w, i32_w]
    rfl
  refine take_ (i := 22) (N := (some 28)) (v := ?_) (a' := ?_) #[true, true, true, true, true, true, true, true, true, true, true, true, true, true, true, true, true, true, true, true, true, true, true, false, false, false] rfl rfl (by kernel_rfl) (fun _ _ _ h => h) (Or.inl ⟨by rfl, ?_⟩) hHeld ?_ ?_
  rotate_left
  · rintro w' ⟨s0, s1, s2, s3, s4, s5, s6, s7⟩
    go_simp
    with_reducible rfl
  rotate_left
  · simp only [Act.put, List.setIfInBounds_toArray, List.set_cons_zero, List.set_cons_succ, i64_w, i32_w]
    rfl
  refine one_ (i := 23) (N := (some 29)) #[true, true, true, true, true, true, true, true, true, true, true, true, true, true, true, true, true, true, true, true, true, true, true, true, false, false] rfl rfl (by kernel_rfl) (by decide) (fun K hK => ?_)
  refine goes_ Try.func91 (by kernel_rfl) rfl #[.agg #[.int .i64 p0, .int .i64 p1, .int .i64 p2], .agg #[.int .i64 q0, .int .i64 q1, .int .i64 q2]] (by rfl) rfl rfl (by (try simp only [List.map_toArray, List.map_cons, List.map_nil]); first | done | rfl) ?_
  refine (impl_IsSibling ⟨p0, p1, p2⟩ ⟨q0, q1, q2⟩ _).mono ?_
  rintro e wc ⟨rfl, bc⟩
  refine ⟨_, rfl, ?_⟩
  rw [HSB.out]
  have bC := bB.trans bc
  refine hK.out _ _ ⟨pw_cell_below bC.out g0, pw_cell_below bC.out g1, pw_cell_below bC.out x0, pw_cell_below bC.out x1, pw_cell_below bC.out x2, pw_cell_below bC.out y0, pw_cell_below bC.out y1, pw_cell_below bC.out y2⟩ (fun hHeld => ?_)
  clear hK K
  refine norm_ (a' := ?_) ?_ ?_
  rotate_left
  · show Act.put _ (some 29) _ = _
    simp only [Act.put, List.setIfInBounds_toArray, List.set_cons_zero, List.set_cons_succ, i64_w, i32_w]
    rfl
  refine pure_ (i := 24) (N := (some 30)) (v := ?_) (a' := ?_) #[true, true, true, true, true, true, true, true, true, true, true, true, true, true, true, true, true, true, true, true, true, true, true, true, true, false] rfl rfl (by kernel_rfl) (fun _ _ _ h => h) (Or.inl ⟨by rfl, ?_⟩) ?_ ?_
  rotate_left
  · intro w'
    go_simp
    with_reducible rfl
  rotate_left
  · simp only [Act.put, List.setIfInBounds_toArray, List.set_cons_zero, List.set_cons_succ, i64_w, i32_w]
    rfl
  refine pure_ (i := 25) (N := (some 31)) (v := ?_) (a' := ?_) #[true, true, true, true, true, true, true, true, true, true, true, true, true, true, true, true, true, true, true, true, true, true, true, true, true, true] rfl rfl (by kernel_rfl) (fun _ _ _ h => h) (Or.inl ⟨by rfl, ?_⟩) ?_ ?_
  rotate_left
  · intro w'
    go_simp
    with_reducible rfl
  rotate_left
  · simp only [Act.put, List.setIfInBounds_toArray, List.set_cons_zero, List.set_cons_succ, i64_w, i32_w]
    rfl
  clear hHeld
  refine done_ (by kernel_rfl) ?_
  have HB3 := hid (HB.out.trans bC)
  replace g0 := pw_cell_below bC.out g0
  replace g1 := pw_cell_below bC.out g1
  replace x1 := pw_cell_below bC.out x1
  have HR3 := hid (HR1.out.to bC)
  clear bD ba bA bb bB bc bC HB HR1 x0 x2 y0 y1 y2
  cases sb with
  | false =>
    go_wp2
    go_ret
    exact ⟨ret_bool (by rw [HR.out]; simp), HB3.out⟩
  | true =>
    rw [Bool.true_and] at HR
    by_cases h0 : 0 < i
    · have t0 : decide (0 < i) = true := decide_eq_true h0
      have H3 := hid (show inR ((i : Int) - 1) 0 ((n : Int) - 1) = true from inR_iff.2 (by have := HI.out; clear e1 e2 e3; omega))
      have j0 : (0 : Int) ≤ (i : Int) - 1 := by clear e1 e2 e3; omega
      have j1 : (i : Int) - 1 < (n : Int) := by have := HI.out; clear e1 e2 e3; omega
      have htn0 : ((i : Int) - 1).toNat = i - 1 := by clear e1 e2 e3; omega
      obtain ⟨_, ea, _, u1, _⟩ := HR3.out.at (i - 1) (by have := HI.out; clear e1 e2 e3; omega)
      obtain rfl := Option.some.inj ea
      obtain ⟨lv, hlv⟩ : ∃ lv, (gc l (i - 1)).l = lv := ⟨_, rfl⟩
      rw [hlv] at u1 HR
      rw [t0] at HR
      go_wp2_with fail
      refine (toBool (impl_has ro (some ad) n c ((i : Int) - 1) _ HMX.out) H3.out).mono ?_
      rintro e w2 ⟨rfl, b2⟩
      replace g0 := pw_cell_below b2.out g0
      replace g1 := pw_cell_below b2.out g1
      replace u1 := pw_cell_below b2.out u1
      have HB4 := hid (HB3.out.trans b2)
      have HR4 := hid (HR3.out.to b2)
      clear b2 HB3 HR3 ea hlv x1 h0 t0
      by_cases hgt : lv > p1
      · have t1 : decide (lv > p1) = true := decide_eq_true hgt
        have t2 : decide (p1 < lv) = true := decide_eq_true hgt
        go_wp2
        go_ret
        exact ⟨ret_bool (by rw [HR.out, t1]; simp), HB4.out⟩
      · have t1 : decide (lv > p1) = false := decide_eq_false hgt
        have t2 : decide (p1 < lv) = false := decide_eq_false hgt
        rw [t1] at HR
        by_cases h2 : i + 2 < n
        · have t4 : decide (i + 2 < n) = true := decide_eq_true h2
          have H4 := hid (show inR ((i : Int) + 2) 0 ((n : Int) - 1) = true from inR_iff.2 (by clear e1 e2 e3; omega))
          have j2 : (0 : Int) ≤ (i : Int) + 2 := by clear e1 e2 e3; omega
          have j3 : (i : Int) + 2 < (n : Int) := by clear e1 e2 e3; omega
          obtain ⟨_, ea, _, v1, _⟩ := HR4.out.at (i + 2) h2
          obtain rfl := Option.some.inj ea
          obtain ⟨lz, hlz⟩ : ∃ lz, (gc l (i + 2)).l = lz := ⟨_, rfl⟩
          rw [hlz] at v1 HR
          rw [t4] at HR
          clear ea hlz t4 h2
          go_wp2_with fail
          refine (toBool (impl_has ro (some ad) n c ((i : Int) + 2) _ HMX.out) H4.out).mono ?_
          rintro e w3 ⟨rfl, b3⟩
          replace g0 := pw_cell_below b3.out g0
          replace g1 := pw_cell_below b3.out g1
          replace v1 := pw_cell_below b3.out v1
          have HB5 := hid (HB4.out.trans b3)
          clear b3 HB4
          by_cases hz : lz > p1
          · have t5 : decide (lz > p1) = true := decide_eq_true hz
            have t6 : decide (p1 < lz) = true := decide_eq_true hz
            go_wp2
            go_ret
            exact ⟨ret_bool (by rw [HR.out, t5]; simp), HB5.out⟩
          · have t5 : decide (lz > p1) = false := decide_eq_false hz
            have t6 : decide (p1 < lz) = false := decide_eq_false hz
            go_wp2
            go_ret
            exact ⟨ret_bool (by rw [HR.out, t5]; simp), HB5.out⟩
        · have t4 : decide (i + 2 < n) = false := decide_eq_false h2
          have H4 := hid (show inR ((i : Int) + 2) 0 ((n : Int) - 1) = false by
            cases h : inR ((i : Int) + 2) 0 ((n : Int) - 1) with
            | false => rfl
            | true => have := inR_iff.1 h; clear e1 e2 e3; omega)
          rw [t4] at HR
          clear t4 h2
          go_wp2_with fail
          refine (toBool (impl_has ro (some ad) n c ((i : Int) + 2) _ HMX.out) H4.out).mono ?_
          rintro e w3 ⟨rfl, b3⟩
          have HB5 := hid (HB4.out.trans b3)
          go_wp2
          go_ret
          exact ⟨ret_bool (by rw [HR.out]; simp), HB5.out⟩
    · have t0 : decide (0 < i) = false := decide_eq_false h0
      have H3 := hid (show inR ((i : Int) - 1) 0 ((n : Int) - 1) = false by
        cases h : inR ((i : Int) - 1) 0 ((n : Int) - 1) with
        | false => rfl
        | true => have := inR_iff.1 h; clear e1 e2 e3; omega)
      rw [t0] at HR
      go_wp2_with fail
      refine (toBool (impl_has ro (some ad) n c ((i : Int) - 1) _ HMX.out) H3.out).mono ?_
      rintro e w2 ⟨rfl, b2⟩
      replace g0 := pw_cell_below b2.out g0
      replace g1 := pw_cell_below b2.out g1
      have HB4 := hid (HB3.out.trans b2)
      have HR4 := hid (HR3.out.to b2)
      clear b2 HB3 HR3 x1 h0 t0
      by_cases h2 : i + 2 < n
      · have t4 : decide (i + 2 < n) = true := decide_eq_true h2
        have H4 := hid (show inR ((i : Int) + 2) 0 ((n : Int) - 1) = true from inR_iff.2 (by clear e1 e2 e3; omega))
        have j2 : (0 : Int) ≤ (i : Int) + 2 := by clear e1 e2 e3; omega
        have j3 : (i : Int) + 2 < (n : Int) := by clear e1 e2 e3; omega
        obtain ⟨_, ea, _, v1, _⟩ := HR4.out.at (i + 2) h2
        obtain rfl := Option.some.inj ea
        obtain ⟨lz, hlz⟩ : ∃ lz, (gc l (i + 2)).l = lz := ⟨_, rfl⟩
        rw [hlz] at v1 HR
        rw [t4] at HR
        clear ea hlz t4 h2
        go_wp2_with fail
        refine (toBool (impl_has ro (some ad) n c ((i : Int) + 2) _ HMX.out) H4.out).mono ?_
        rintro e w3 ⟨rfl, b3⟩
        replace g0 := pw_cell_below b3.out g0
        replace g1 := pw_cell_below b3.out g1
        replace v1 := pw_cell_below b3.out v1
        have HB5 := hid (HB4.out.trans b3)
        clear b3 HB4
        by_cases hz : lz > p1
        · have t5 : decide (lz > p1) = true := decide_eq_true hz
          have t6 : decide (p1 < lz) = true := decide_eq_true hz
          go_wp2
          go_ret
          exact ⟨ret_bool (by rw [HR.out, t5]; simp), HB5.out⟩
        · have t5 : decide (lz > p1) = false := decide_eq_false hz
          have t6 : decide (p1 < lz) = false := decide_eq_false hz
          go_wp2
          go_ret
          exact ⟨ret_bool (by rw [HR.out, t5]; simp), HB5.out⟩
      · have t4 : decide (i + 2 < n) = false := decide_eq_false h2
        have H4 := hid (show inR ((i : Int) + 2) 0 ((n : Int) - 1) = false by
          cases h : inR ((i : Int) + 2) 0 ((n : Int) - 1) with
          | false => rfl
          | true => have := inR_iff.1 h; clear e1 e2 e3; omega)
        rw [t4] at HR
        clear t4 h2
        go_wp2_with fail
        refine (toBool (impl_has ro (some ad) n c ((i : Int) + 2) _ HMX.out) H4.out).mono ?_
        rintro e w3 ⟨rfl, b3⟩
        have HB5 := hid (HB4.out.trans b3)
        go_wp2
        go_ret
        exact ⟨ret_bool (by rw [HR.out]; simp), HB5.out⟩
end Go.Proofs.Ytaidbdogolhnjaa.U
