/- The law FnPartitions returns true at all codes. -/
import Derived.Test.YtakcljnimggjjaaDm
import Derived.Test.YtakcljnimggjjaaDw
import Derived.Test.YtakcljnimggjjaaPq
import Derived.Test.YtakcljnimggjjaaCu
import Derived.Test.YtakcljnimggjjaaSi
import Derived.Test.YtakcljnimggjjaaWMore
set_option linter.unusedVariables false
set_option linter.unusedSimpArgs false
namespace Go.Proofs.Ytakcljnimggjjaa.U
open Go.RowKit Go.Lib Go.Proofs.YtakcljnimggjjaaW.PrintWords

attribute [local go_sem] go_max2 go_min2
open Go.Proofs.YtakcljnimggjjaaW.PrintLast Go.Proofs.YtakcljnimggjjaaW.PrintMore
theorem OI.one {W : World} {base n : Nat} {l : List Int} {x : Int} {v1 : Value} (h : W.ownsRow base 3 1 v1 (n + 1) (nums .i64 l ++ [.int .i64 x])) : OI W base v1 (n + 1) (l ++ [x]) := ⟨by rw [nums_append]; exact h⟩
/-- what the law needs of the partition of drawn weights -/
theorem part_facts (l : List Int) (n : Nat) (k : Nat) (hl : l.length = n) (hn : 1 ≤ n ∧ n ≤ 20) (hw : ∀ x ∈ l, 0 ≤ x ∧ x ≤ 16) (hk : 1 ≤ k ∧ k ≤ 8) :
    ∃ C m F G, (partL l (k : Int)).1 = C ∧ (partL l (k : Int)).2 = m ∧ C.length = k + 1 ∧ cutsOk (n : Int) C = true ∧ maxPart l C = m ∧ (0 ≤ m ∧ m ≤ 1000000000) ∧ fewest l m = F ∧ (1 ≤ F ∧ F ≤ k) ∧ fewest l (m - 1) = G ∧ (G = -1 ∨ (k : Int) < G) ∧ wOk l = true ∧ (∀ D, cutsOk (n : Int) D = true → D.length ≤ k + 1 → m ≤ maxPart l D) := by
  have hok : wOk l = true := wOk_iff.2 ⟨by omega, fun x hx => by have := hw x hx; omega⟩
  have hn0 : l.length ≠ 0 := by omega
  obtain ⟨N, hN⟩ : ∃ N : Nat, (N : Int) = psum l l.length := ⟨(psum l l.length).toNat, by have := psum_mono hok (Nat.zero_le l.length) (Nat.le_refl _); rw [psum_zero] at this; omega⟩
  -- the least that is enough
  have hex : ∃ m, IsBest l k m := by
    have h : ∀ d : Nat, d ≤ N → Enough l (d : Int) k → ∃ m, IsBest l k m := by
      intro d
      induction d with
      | zero =>
        intro _ he
        exact ⟨_, he, fun x hx hx2 => by have := fits_nn hok hn0 hx2.1; omega⟩
      | succ d ih =>
        intro hd he
        by_cases h : Enough l (d : Int) k
        · exact ih (by omega) h
        · exact ⟨_, best_of hok hn0 he (by rw [show ((d + 1 : Nat) : Int) - 1 = (d : Int) by omega]; exact h)⟩
    exact h N (Nat.le_refl _) (by rw [hN]; exact all_enough hok hn0 k hk.1)
  obtain ⟨m, hb⟩ := hex
  obtain ⟨f1, f2, f3, f4, f5, f6⟩ := best_cuts hok hn0 hk.1 (by omega) hb
  have hp := partL_nat (l := l) (k := k) (inR_yes (by omega)) hn0 hok
  have hF := (fewest_enough hok hn0 m k).1 hb.enough
  have hF1 : 1 ≤ fewest l m := by
    have : 2 ≤ (cutsL l m).length := by
      have := (cutTo_len l m l.length).1
      simp [cutsL]
      omega
    unfold fewest
    rw [if_pos hok, if_neg hn0, if_pos hb.enough.1]
    omega
  have hG : fewest l (m - 1) = -1 ∨ (k : Int) < fewest l (m - 1) := by
    have h1 := fun h => hb.least (m - 1) (by omega) ((fewest_enough hok hn0 (m - 1) k).2 h)
    have h2 : fewest l (m - 1) = -1 ∨ 0 ≤ fewest l (m - 1) := by
      unfold fewest
      rw [if_pos hok, if_neg hn0]
      split
      · right
        simp [cutsL]
      · left
        rfl
    rcases h2 with h2 | h2
    · exact .inl h2
    · right
      rcases Int.lt_or_le (k : Int) (fewest l (m - 1)) with h3 | h3
      · exact h3
      · exact absurd ⟨h2, h3⟩ h1
  have hm : maxPart l (cutsOf l k) = mostTo l (cutsOf l k) ((cutsOf l k).length - 1) := by simp [maxPart, f2, hok]
  have hmr := mostTo_range (cuts := cutsOf l k) hok ((cutsOf l k).length - 1)
  rw [← hm, f3] at hmr
  exact ⟨cutsOf l k, m, _, _, by rw [hp], by rw [hp]; exact hb.eq, f1, by rw [← hl]; exact f2, f3, hmr, rfl, ⟨hF1, hF.2⟩, rfl, hG, hok, fun D h1 h2 => best_least hok hn0 hb (by rw [hl]; exact h1) h2⟩
set_option maxHeartbeats 8000000 in
set_option maxRecDepth 100000 in
theorem law_Partitions (A : Option Addr) (n c : Nat) (l : List Int) (w : World) (r : ReadsInt w .u8 A n l) (wf : ∀ x ∈ l, 0 ≤ x ∧ x ≤ 255) :
    Calls Try.prog 8 #[.slice A n c] w fun e w' => e = .returned (.bool true) ∧ Bw w w' := by
  have WF := hid wf
  clear wf
  by_cases hb : n ≤ 1048576
  · have t1 : decide (1048576 < (n : Int)) = false := decide_eq_false (by omega)
    have T1 := hid t1
    clear t1
    go_enter Try.func8, Try.ntmps8
    go_wp2_with fail
    refine (toBool (lawbig _ _ _ _) T1.out).mono ?_
    rintro e w1 ⟨rfl, rfl⟩
    go_wp2_with fail
    refine (DrawWeights A n c l _ r WF.out hb).mono ?_
    rintro e w1 ⟨B, m, b, u, rfl, hu, ⟨hm1, hm2, hub⟩, b1⟩
    have ru := hu.ri
    have hcap := hu.cap
    have hlu := hu.len
    clear hu
    go_wp2_with fail
    refine (DrawPlaces A n c l _ (r.below b1.out) WF.out hb).mono ?_
    rintro e w2 ⟨P, m2, pc, ps, rfl, hp, ⟨hpn, hpb⟩, b2⟩
    subst hpn
    have rp := hp.ri
    have hpl := hp.len
    have hp0 : ∀ i : Nat, i < 12 → 0 ≤ rd ps (i : Int) ∧ rd ps (i : Int) < 10000 := fun i hi => hpb _ (by
      rw [rd_nat, List.getD_eq_getElem?_getD, List.getElem?_eq_getElem (by omega)]
      exact List.getElem_mem (by omega))
    have HP0 := hid hp0
    have hq0 : 0 ≤ rd ps 0 ∧ rd ps 0 < 10000 := hp0 0 (by omega)
    replace ru := ru.to b2
    replace b1 := b1.trans b2
    clear hp hpb b2 hp0 hpl
    obtain ⟨ap, rfl, hcp⟩ := rp.nat 0 (by omega)
    have hcp0 : w2.cell? ap = some (.int .i64 (rd ps 0)) := hcp
    clear hcp
    have hq1 : 0 ≤ rd ps 0 % 8 ∧ rd ps 0 % 8 < 8 := by omega
    obtain ⟨kn, hkn⟩ : ∃ kn : Nat, (kn : Int) = 1 + rd ps 0 % 8 := ⟨(1 + rd ps 0 % 8).toNat, by omega⟩
    have hk : 1 ≤ kn ∧ kn ≤ 8 := by omega
    have hkn2 : 1 + rd ps 0 % 8 = (kn : Int) := hkn.symm
    obtain ⟨C, mo, F, G, hC, hM, hCl, hCo, hCm, hmb, hF, hFb, hG, hGb, hok, hleast⟩ := part_facts u m kn hlu ⟨hm1, hm2⟩ hub hk
    have HK := hid hkn2
    have HC := hid hC
    have HM := hid hM
    have HCL := hid hCl
    have HCO := hid hCo
    have HCM := hid hCm
    have HF := hid hF
    have HG := hid hG
    have HOK := hid hok
    have HLE := hid hleast
    have HLU := hid hlu
    clear hC hM hCl hCo hCm hF hG hok hleast hlu hub hkn hkn2
    go_wp2_with fail
    clear hcp0 hq0 hq1
    rw [HK.out]
    refine (impl_PartitionOf _ m b u _ _ ru hcap).mono ?_
    rintro e w3 ⟨V, rfl, o, b3⟩
    rw [HC.out, HCL.out] at o
    rw [HM.out]
    obtain ⟨Ac, cc, rfl, rc⟩ := o.reads
    replace ru := ru.to b3
    replace rp := rp.to b3
    replace b1 := b1.trans b3
    clear b3 o HK
    go_wp2_with fail
    refine (toBool (impl_CutsOk _ _ _ _ _ _ rc) HCO.out).mono ?_
    rintro e w4 ⟨rfl, d4⟩
    replace ru := ru.dr d4
    replace rp := rp.dr d4
    replace rc := rc.dr d4
    replace b1 := b1.trans (Bw.drawn d4)
    clear d4
    have e1 : ((kn : Int) + 1 != (kn : Int) + 1) = false := by simp
    go_wp2_with fail
    refine (impl_MaxPart _ m b u _ _ _ C _ ru rc hcap).mono ?_
    rintro e w5 ⟨rfl, d5⟩
    rw [HCM.out]
    replace ru := ru.dr d5
    replace rp := rp.dr d5
    replace b1 := b1.trans (Bw.drawn d5)
    clear d5 rc
    go_wp2_with fail
    refine (impl_FewestParts _ m b u _ _ ru (by omega)).mono ?_
    rintro e w6 ⟨rfl, b6⟩
    rw [HF.out]
    replace ru := ru.to b6
    replace rp := rp.to b6
    replace b1 := b1.trans b6
    clear b6
    go_wp2_with fail
    refine (impl_FewestParts _ m b u _ _ ru (by omega)).mono ?_
    rintro e w7 ⟨rfl, b7⟩
    rw [HG.out]
    replace ru := ru.to b7
    replace rp := rp.to b7
    replace b1 := b1.trans b7
    clear b7
    have o0 : OI (w7.alloc (.cells #[.int .i64 0] 3)) w7.heap.size (.slice (some ⟨w7.heap.size, 0, none⟩) 1 1) 1 [0] := ⟨own_lit w7 w7.heap.size 3 .i64 [0] (Nat.le_refl _) (by simp)⟩
    have bb0 : Bw w7 (w7.alloc (.cells #[.int .i64 0] 3)) := ⟨below_alloc (Below.refl _ _) _⟩
    obtain ⟨S, hS⟩ : ∃ S, S = psum u u.length := ⟨_, rfl⟩
    have HST : Hid (∀ a b : Nat, a ≤ b → b ≤ m → psum u b - psum u a ≤ S) := hid (fun a b' h1 h2 => by
      have g1 := psum_mono HOK.out (Nat.zero_le a) (by rw [HLU.out]; omega)
      have g2 := psum_mono HOK.out (show b' ≤ u.length by rw [HLU.out]; exact h2) (Nat.le_refl _)
      rw [psum_zero] at g1
      omega)
    have HG0 : Hid (Good u S [0] 0) := hid ⟨by simp, by simp [rd], by simp [rd], fun i hi => by simp at hi⟩
    clear hS
    go_wp2
    generalize w7.alloc (.cells #[.int .i64 0] 3) = W8 at *
    go_loopw [10, 11] (fun v10 v11 wr => ∃ (i e : Nat) (o : List Int), 1 ≤ i ∧ i ≤ kn ∧ v11 = .int .i64 i ∧ OI wr w7.heap.size v10 i o ∧ e ≤ m ∧ Hid (Good u S o e) ∧ Bw w7 wr) (fun _ v11 _ => 8 - (intOf v11).toNat)
    case atStart => exact ⟨1, 0, [0], by omega, by omega, rfl, o0, by omega, HG0, bb0⟩
    case round =>
      obtain ⟨i, e, o, hi1, hi2, rfl, hO, he, hGd, hB⟩ := hrel
      obtain ⟨Ao, co, rfl, ro⟩ := hO.reads
      have hol := hid hO.len
      by_cases hlt : i < kn
      · have t1 : decide ((i : Int) < (kn : Int)) = true := decide_eq_true (by omega)
        obtain ⟨ao, rfl, hco⟩ := ro.nat (i - 1) (by omega)
        obtain ⟨_, ea, hcp⟩ := (rp.to hB).nat i (by omega)
        obtain rfl := Option.some.inj ea
        have hle : rd o ((i - 1 : Nat) : Int) = (e : Int) := by
          have := hGd.out.last
          rwa [hol.out] at this
        rw [hle] at hco
        obtain ⟨p1, p2⟩ := HP0.out i (by omega)
        obtain ⟨y, hy⟩ : ∃ y : Nat, (y : Int) = rd ps (i : Int) % 9 := ⟨(rd ps (i : Int) % 9).toNat, by omega⟩
        have hy9 : y < 9 := by omega
        generalize rd ps (i : Int) = pi at *
        have i0 : IntKind.i64.wrap ((i : Int) - 1) = ((i - 1 : Nat) : Int) := by rw [i64w (by omega) (by omega)]; omega
        have i1 : pi.tmod 9 = (y : Int) := by rw [Int.tmod_eq_emod_of_nonneg p1, ← hy]
        have i2 : IntKind.i64.wrap ((e : Int) + (y : Int)) = (e : Int) + (y : Int) := i64w (by omega) (by omega)
        have g0 : (0 : Int) ≤ ((i - 1 : Nat) : Int) := by omega
        have g1 : ((i - 1 : Nat) : Int) < (i : Int) := by omega
        have g2 : (0 : Int) ≤ (i : Int) := by omega
        have g3 : (i : Int) < 12 := by omega
        clear ea ro
        obtain ⟨mn, hmn⟩ : ∃ mn : Nat, mn = min m (e + y) := ⟨_, rfl⟩
        have i3 : smallMin (m : Int) ((e : Int) + (y : Int)) = (mn : Int) := by rw [smallMin_min]; omega
        have hmn1 : e ≤ mn ∧ mn ≤ m := by omega
        have HMN := hid hmn1
        clear hmn hmn1 hy p1 p2
        go_wp2
        refine start_ (n := 18) (S := fun w' => w'.cell? (ao.add (i - 1)) = some (.int .i64 (e : Int)) ∧ w'.cell? (ap.add i) = some (.int .i64 pi)) (ds := [15, 16]) #[false, false, false, false, false, false, false, false, false, false, false, false, false, false, false, false, false, false] (by kernel_rfl) rfl rfl ⟨hco, hcp⟩ (fun hHeld => ?_)
        refine pure_ (i := 0) (N := (some 61)) (v := ?_) (a' := ?_) #[true, false, false, false, false, false, false, false, false, false, false, false, false, false, false, false, false, false] rfl rfl (by kernel_rfl) (fun _ _ _ h => h) (Or.inl ⟨by rfl, ?_⟩) ?_ ?_
        rotate_left
        · intro w'
          go_simp
          with_reducible rfl
        rotate_left
        · simp only [Act.put, List.setIfInBounds_toArray, List.set_cons_zero, List.set_cons_succ, i64_w, i32_w]
          rfl
        refine pure_ (i := 1) (N := (some 62)) (v := ?_) (a' := ?_) #[true, true, false, false, false, false, false, false, false, false, false, false, false, false, false, false, false, false] rfl rfl (by kernel_rfl) (fun _ _ _ h => h) (Or.inl ⟨by rfl, ?_⟩) ?_ ?_
        rotate_left
        · intro w'
          go_simp
          with_reducible rfl
        rotate_left
        · simp only [Act.put, List.setIfInBounds_toArray, List.set_cons_zero, List.set_cons_succ, i64_w, i32_w]
          rfl
        refine pure_ (i := 2) (N := (some 63)) (v := ?_) (a' := ?_) #[true, true, true, false, false, false, false, false, false, false, false, false, false, false, false, false, false, false] rfl rfl (by kernel_rfl) (fun _ _ _ h => h) (Or.inl ⟨by rfl, ?_⟩) ?_ ?_
        rotate_left
        · intro w'
          go_simp
          with_reducible rfl
        rotate_left
        · simp only [Act.put, List.setIfInBounds_toArray, List.set_cons_zero, List.set_cons_succ, i64_w, i32_w]
          rfl
        refine pure_ (i := 3) (N := (some 64)) (v := ?_) (a' := ?_) #[true, true, true, true, false, false, false, false, false, false, false, false, false, false, false, false, false, false] rfl rfl (by kernel_rfl) (fun _ _ _ h => h) (Or.inl ⟨by rfl, ?_⟩) ?_ ?_
        rotate_left
        · intro w'
          go_simp
          with_reducible rfl
        rotate_left
        · simp only [Act.put, List.setIfInBounds_toArray, List.set_cons_zero, List.set_cons_succ, i64_w, i32_w]
          rfl
        refine pure_ (i := 4) (N := (some 65)) (v := ?_) (a' := ?_) #[true, true, true, true, true, false, false, false, false, false, false, false, false, false, false, false, false, false] rfl rfl (by kernel_rfl) (fun _ _ _ h => h) (Or.inl ⟨by rfl, ?_⟩) ?_ ?_
        rotate_left
        · intro w'
          go_simp
          with_reducible rfl
        rotate_left
        · simp only [Act.put, List.setIfInBounds_toArray, List.set_cons_zero, List.set_cons_succ, i64_w, i32_w]
          rfl
        refine pure_ (i := 5) (N := (some 66)) (v := ?_) (a' := ?_) #[true, true, true, true, true, true, false, false, false, false, false, false, false, false, false, false, false, false] rfl rfl (by kernel_rfl) (fun _ _ _ h => h) (Or.inl ⟨by rfl, ?_⟩) ?_ ?_
        rotate_left
        · intro w'
          go_simp
          with_reducible rfl
        rotate_left
        · simp only [Act.put, List.setIfInBounds_toArray, List.set_cons_zero, List.set_cons_succ, i64_w, i32_w]
          rfl
        refine pure_ (i := 6) (N := (some 67)) (v := ?_) (a' := ?_) #[true, true, true, true, true, true, true, false, false, false, false, false, false, false, false, false, false, false] rfl rfl (by kernel_rfl) (fun _ _ _ h => h) (Or.inl ⟨by rfl, ?_⟩) ?_ ?_
        rotate_left
        · intro w'
          go_simp
          with_reducible rfl
        rotate_left
        · simp only [Act.put, List.setIfInBounds_toArray, List.set_cons_zero, List.set_cons_succ, i64_w, i32_w]
          rfl
        refine take_ (i := 7) (N := (some 68)) (v := ?_) (a' := ?_) #[true, true, true, true, true, true, true, true, false, false, false, false, false, false, false, false, false, false] rfl rfl (by kernel_rfl) (fun _ _ _ h => h) (Or.inl ⟨by rfl, ?_⟩) hHeld ?_ ?_
        rotate_left
        · rintro w' ⟨s0, s1⟩
          go_simp
          with_reducible rfl
        rotate_left
        · simp only [Act.put, List.setIfInBounds_toArray, List.set_cons_zero, List.set_cons_succ, i64_w, i32_w]
          rfl
        refine pure_ (i := 8) (N := (some 69)) (v := ?_) (a' := ?_) #[true, true, true, true, true, true, true, true, true, false, false, false, false, false, false, false, false, false] rfl rfl (by kernel_rfl) (fun _ _ _ h => h) (Or.inl ⟨by rfl, ?_⟩) ?_ ?_
        rotate_left
        · intro w'
          go_simp
          with_reducible rfl
        rotate_left
        · simp only [Act.put, List.setIfInBounds_toArray, List.set_cons_zero, List.set_cons_succ, i64_w, i32_w]
          rfl
        refine pure_ (i := 9) (N := (some 70)) (v := ?_) (a' := ?_) #[true, true, true, true, true, true, true, true, true, true, false, false, false, false, false, false, false, false] rfl rfl (by kernel_rfl) (fun _ _ _ h => h) (Or.inl ⟨by rfl, ?_⟩) ?_ ?_
        rotate_left
        · intro w'
          go_simp
          with_reducible rfl
        rotate_left
        · simp only [Act.put, List.setIfInBounds_toArray, List.set_cons_zero, List.set_cons_succ, i64_w, i32_w]
          rfl
        refine pure_ (i := 10) (N := (some 71)) (v := ?_) (a' := ?_) #[true, true, true, true, true, true, true, true, true, true, true, false, false, false, false, false, false, false] rfl rfl (by kernel_rfl) (fun _ _ _ h => h) (Or.inl ⟨by rfl, ?_⟩) ?_ ?_
        rotate_left
        · intro w'
          go_simp
          with_reducible rfl
        rotate_left
        · simp only [Act.put, List.setIfInBounds_toArray, List.set_cons_zero, List.set_cons_succ, i64_w, i32_w]
          rfl
        refine take_ (i := 11) (N := (some 72)) (v := ?_) (a' := ?_) #[true, true, true, true, true, true, true, true, true, true, true, true, false, false, false, false, false, false] rfl rfl (by kernel_rfl) (fun _ _ _ h => h) (Or.inl ⟨by rfl, ?_⟩) hHeld ?_ ?_
        rotate_left
        · rintro w' ⟨s0, s1⟩
          go_simp
          with_reducible rfl
        rotate_left
        · simp only [Act.put, List.setIfInBounds_toArray, List.set_cons_zero, List.set_cons_succ, i64_w, i32_w]
          rfl
        refine pure_ (i := 12) (N := (some 73)) (v := ?_) (a' := ?_) #[true, true, true, true, true, true, true, true, true, true, true, true, true, false, false, false, false, false] rfl rfl (by kernel_rfl) (fun _ _ _ h => h) (Or.inl ⟨by rfl, ?_⟩) ?_ ?_
        rotate_left
        · intro w'
          go_simp
          with_reducible rfl
        rotate_left
        · simp only [Act.put, List.setIfInBounds_toArray, List.set_cons_zero, List.set_cons_succ, i64_w, i32_w]
          rfl
        refine pure_ (i := 13) (N := (some 74)) (v := ?_) (a' := ?_) #[true, true, true, true, true, true, true, true, true, true, true, true, true, true, false, false, false, false] rfl rfl (by kernel_rfl) (fun _ _ _ h => h) (Or.inl ⟨by rfl, ?_⟩) ?_ ?_
        rotate_left
        · intro w'
          go_simp
          with_reducible rfl
        rotate_left
        · simp only [Act.put, List.setIfInBounds_toArray, List.set_cons_zero, List.set_cons_succ, i64_w, i32_w]
          rfl
        refine pure_ (i := 14) (N := (some 75)) (v := ?_) (a' := ?_) #[true, true, true, true, true, true, true, true, true, true, true, true, true, true, true, false, false, false] rfl rfl (by kernel_rfl) (fun _ _ _ h => h) (Or.inl ⟨by rfl, ?_⟩) ?_ ?_
        rotate_left
        · intro w'
          go_simp
          with_reducible rfl
        rotate_left
        · simp only [Act.put, List.setIfInBounds_toArray, List.set_cons_zero, List.set_cons_succ, i64_w, i32_w]
          rfl
        refine last_ (i := 15) (N := (some 76)) #[true, true, true, true, true, true, true, true, true, true, true, true, true, true, true, true, false, false] rfl rfl (by kernel_rfl) (by decide) (fun K hK => ?_)
        refine value_ (w1 := ?_) (v := ?_) (by rfl) rfl ?_ ?_
        rotate_left 2
        · go_simp
          constructor
          · rfl
          · rfl
        refine hK.out _ _ ?_
        clear hK K
        refine norm_ (a' := ?_) ?_ ?_
        rotate_left
        · show Act.put _ (some 76) _ = _
          simp only [Act.put, List.setIfInBounds_toArray, List.set_cons_zero, List.set_cons_succ, i64_w, i32_w]
          rfl
        refine last_ (i := 16) (N := (some 77)) #[true, true, true, true, true, true, true, true, true, true, true, true, true, true, true, true, true, false] rfl rfl (by kernel_rfl) (by decide) (fun K hK => ?_)
        refine step_append_cells (w0 := w7) w7.heap.size (by rfl) (.tmp 61) (.tmp 76) 22 3 (.int .i64 0) 1 8 rfl Try.underlying22 info_int rfl (by decide) (by decide) (.slice (some ao) i co) i (nums .i64 o) [.int .i64 (mn : Int)] rfl rfl rfl (by simp [Value.oneCell']) (hO.to (Bw.drawn ⟨⟨1, rfl⟩⟩)).out (hB.trans (Bw.drawn ⟨⟨1, rfl⟩⟩)).out (hB.trans (Bw.drawn ⟨⟨1, rfl⟩⟩)).size (by omega) ?_
        intro v1 w9 hown1 hB1 hg1 _
        refine hK.out _ _ ?_
        clear hK K
        refine norm_ (a' := ?_) ?_ ?_
        rotate_left
        · show Act.put _ (some 77) _ = _
          simp only [Act.put, List.setIfInBounds_toArray, List.set_cons_zero, List.set_cons_succ, i64_w, i32_w]
          rfl
        have hO9 := OI.one hown1
        have hB9 : Bw w7 w9 := ⟨hB1⟩
        refine pure_ (i := 17) (N := (some 10)) (v := ?_) (a' := ?_) #[true, true, true, true, true, true, true, true, true, true, true, true, true, true, true, true, true, true] rfl rfl (by kernel_rfl) (fun _ _ _ h => h) (Or.inl ⟨by rfl, ?_⟩) ?_ ?_
        rotate_left
        · intro w'
          go_simp
          with_reducible rfl
        rotate_left
        · simp only [Act.put, List.setIfInBounds_toArray, List.set_cons_zero, List.set_cons_succ, i64_w, i32_w]
          rfl
        refine done_ (by kernel_rfl) ?_
        go_wp2
        go_roundw
        case rel => exact ⟨i + 1, mn, o ++ [(mn : Int)], by omega, by omega, by go_num, hO9, HMN.out.2, hid (hGd.out.app HMN.out.1 (HST.out e mn HMN.out.1 HMN.out.2)), hB9⟩
        case measure => simp [intOf]; omega
      · obtain rfl : i = kn := by omega
        have t1 : decide ((i : Int) < (i : Int)) = false := decide_eq_false (by omega)
        have hgn : Good u S (o ++ [(m : Int)]) m := hGd.out.app he (HST.out e m he (Nat.le_refl _))
        have hgl : (o ++ [(m : Int)]).length = i + 1 := by rw [List.length_append, hol.out]; rfl
        have hco : cutsOk (m : Int) (o ++ [(m : Int)]) = true := by
          have h := good_cuts (l := u) (C := o ++ [(m : Int)]) (m := S) (by rw [HLU.out]; exact hgn) (by omega) (by omega)
          rwa [HLU.out] at h
        have hX := HLE.out _ hco (by omega)
        obtain ⟨X, hXe⟩ : ∃ X, X = maxPart u (o ++ [(m : Int)]) := ⟨_, rfl⟩
        rw [← hXe] at hX
        have HX := hid hXe
        have HGL := hid hgl
        have t2 : decide (1 ≤ F) = true := decide_eq_true hFb.1
        have t3 : decide (F ≤ (i : Int)) = true := decide_eq_true hFb.2
        have t5 : decide (mo ≤ X) = true := decide_eq_true hX
        have hO2 : OI wr w7.heap.size (.slice Ao i co) o.length o := by rw [hol.out]; exact hO
        clear hgn hgl hco hX hXe hGd
        rcases hGb with hG1 | hG1
        · have t4 : (G == -1) = true := beq_iff_eq.2 hG1
          clear hG1
          go_wp2_with (at_builtin; refine print_append_num (w0 := w7) w7.heap.size rfl _ _ 22 3 .i64 8 rfl Try.underlying22 info_int (by omega) (.slice Ao i co) o (m : Int) rfl rfl hO2.out hB.out hB.size (by have := hol.out; omega) ?_; intro v1 w9 hown1 hB1 hg1 _)
          have hO3 : OI w9 w7.heap.size v1 (o ++ [(m : Int)]).length (o ++ [(m : Int)]) := OI.app hown1
          rw [HGL.out] at hO3
          obtain ⟨A9, c9, rfl, r9⟩ := hO3.reads
          have b9 : Bw w7 w9 := ⟨hB1⟩
          go_wp2_with fail
          refine (impl_MaxPart _ m b u _ _ _ _ _ (ru.to b9) r9 hcap).mono ?_
          rintro e w10 ⟨rfl, d10⟩
          rw [← HX.out]
          go_wp2
          go_ret
          exact ⟨rfl, (b1.trans b9).trans (Bw.drawn d10)⟩
        · have t4 : (G == -1) = false := beq_eq_false_iff_ne.2 (by omega)
          have t6 : decide ((i : Int) < G) = true := decide_eq_true hG1
          clear hG1
          go_wp2_with (at_builtin; refine print_append_num (w0 := w7) w7.heap.size rfl _ _ 22 3 .i64 8 rfl Try.underlying22 info_int (by omega) (.slice Ao i co) o (m : Int) rfl rfl hO2.out hB.out hB.size (by have := hol.out; omega) ?_; intro v1 w9 hown1 hB1 hg1 _)
          have hO3 : OI w9 w7.heap.size v1 (o ++ [(m : Int)]).length (o ++ [(m : Int)]) := OI.app hown1
          rw [HGL.out] at hO3
          obtain ⟨A9, c9, rfl, r9⟩ := hO3.reads
          have b9 : Bw w7 w9 := ⟨hB1⟩
          go_wp2_with fail
          refine (impl_MaxPart _ m b u _ _ _ _ _ (ru.to b9) r9 hcap).mono ?_
          rintro e w10 ⟨rfl, d10⟩
          rw [← HX.out]
          go_wp2
          go_ret
          exact ⟨rfl, (b1.trans b9).trans (Bw.drawn d10)⟩
  · have t1 : decide (1048576 < (n : Int)) = true := decide_eq_true (by omega)
    have T1 := hid t1
    clear t1
    go_enter Try.func8, Try.ntmps8
    go_wp2_with fail
    refine (toBool (lawbig _ _ _ _) T1.out).mono ?_
    rintro e w1 ⟨rfl, rfl⟩
    go_wp2
    go_ret
    exact ⟨rfl, Bw.refl _⟩
end Go.Proofs.Ytakcljnimggjjaa.U
