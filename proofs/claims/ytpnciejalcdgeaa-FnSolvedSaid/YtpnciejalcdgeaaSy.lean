
/- Which systems of equations are let in, by the program and by the reference. -/
import Derived.Test.YtpnciejalcdgeaaCf
set_option linter.unusedVariables false
set_option linter.unusedSimpArgs false
namespace Go.Proofs.Ytpnciejalcdgeaa.U
open Go.RowKit Go.Lib Go.Proofs.YtpnciejalcdgeaaW.PrintWords

/-- 1 to 64 numbers, each in the range -most to most -/
def unkOk (l : List Int) (most : Int) : Bool := inR l.length 1 64 && l.all (fun x => inR x (-most) most)
theorem unkOk_iff {l : List Int} {most : Int} : unkOk l most = true ↔ (1 ≤ l.length ∧ l.length ≤ 64) ∧ ∀ x ∈ l, -most ≤ x ∧ x ≤ most := by
  simp only [unkOk, Bool.and_eq_true, inR_iff, List.all_eq_true]
  constructor
  · rintro ⟨⟨h1, h2⟩, h⟩; exact ⟨⟨by omega, by omega⟩, h⟩
  · rintro ⟨⟨h1, h2⟩, h⟩; exact ⟨⟨by omega, by omega⟩, h⟩
def sysOk (u f : List Int) (k : Int) : Bool := decide (u.length = f.length) && unkOk u 1000000000 && unkOk f 1000000000 && inR k 0 1000
theorem unknowns_pred (w : World) (B : Nat) (most : Int) (h0 : 0 ≤ most) (h1 : most ≤ 100000000000000) (hc : w.cell? ⟨B, 0, none⟩ = some (.int .i64 most)) :
    PredI 50 #[.pointer (some ⟨B, 0, none⟩)] (fun x => !inR x (-most) most) w := ⟨fun W x d => by
  have hc' : W.cell? ⟨B, 0, none⟩ = some (.int .i64 most) := pw_cell_below d.below hc
  go_enter Try.func50, Try.ntmps50
  go_wp2_with (go_at_call 25; refine (within _ _ _ _).mono ?_; rintro e w' ⟨rfl, rfl⟩)
  try (go_quiet ((go_at_call 25; exact Calls.quiet_of_same ((within _ _ _ _).mono fun e w' h => ⟨h.1, h.2.symm⟩))))
  try go_wp2
  go_ret
  first | exact ⟨rfl, Drawn0.refl _⟩ | exact ⟨rfl, ⟨⟨_, rfl⟩⟩⟩⟩
theorem unk_any (l : List Int) (most : Int) (h : inR l.length 1 64 = true) : unkOk l most = !(l.any fun x => !inR x (-most) most) := by rw [not_any_not, unkOk, h, Bool.true_and]
set_option maxHeartbeats 1000000 in
theorem impl_areUnknowns (A : Option Addr) (n c : Nat) (l : List Int) (most : Int) (w : World) (r : RI w A n l) (h0 : 0 ≤ most) (h1 : most ≤ 100000000000000) :
    Calls Try.prog 28 #[.slice A n c, .int .i64 most] w fun e w' => e = .returned (.bool (unkOk l most)) ∧ Bw w w' := by
  have hl := r.len
  have eg := enters_of Try.func50 (by kernel_rfl) rfl
  obtain ⟨W0, hW0⟩ : ∃ W0 : World, W0 = w.alloc (.cells #[.int .i64 most] 3) := ⟨_, rfl⟩
  have b0 : Bw w W0 := ⟨by rw [hW0]; exact below_alloc (Below.refl _ _) _⟩
  have hc : W0.cell? ⟨w.heap.size, 0, none⟩ = some (.int .i64 most) := by rw [hW0]; simp
  cases hin : inR (n : Int) 1 64 with
  | true =>
    have hu := unk_any l most (by rw [hl]; exact hin)
    rw [hu]
    have HP := unknowns_pred W0 w.heap.size most h0 h1 hc
    have HI := hid hin
    clear hl hu hc hin
    go_enter Try.func28, Try.ntmps28
    go_wp2_with fail
    refine (within _ _ _ _).mono ?_
    rintro e w' ⟨rfl, rfl⟩
    rw [HI.out]
    rw [← hW0]
    clear hW0
    go_wp2_with fail
    refine (ContainsFunc A n c l _ _ _ _ (r.to b0) HP eg).mono ?_
    rintro e w' ⟨rfl, d⟩
    go_wp2
    go_ret
    exact ⟨rfl, b0.trans (Bw.drawn d)⟩
  | false =>
    have hu : unkOk l most = false := by rw [unkOk, hl, hin, Bool.false_and]
    rw [hu]
    have HI := hid hin
    clear hl hu hc hin
    go_enter Try.func28, Try.ntmps28
    go_wp2_with fail
    refine (within _ _ _ _).mono ?_
    rintro e w' ⟨rfl, rfl⟩
    rw [HI.out]
    rw [← hW0]
    clear hW0
    go_wp2
    go_ret
    exact ⟨rfl, b0⟩
set_option maxHeartbeats 1000000 in
theorem impl_SystemOk (A : Option Addr) (n c : Nat) (u : List Int) (B : Option Addr) (m d : Nat) (f : List Int) (k : Int) (w : World) (r : RI w A n u) (q : RI w B m f) :
    Calls Try.prog 26 #[.slice A n c, .slice B m d, .int .i64 k] w fun e w' => e = .returned (.bool (sysOk u f k)) ∧ Bw w w' := by
  have hl := r.len
  have hl2 := q.len
  by_cases hnm : n = m
  · have e1 : ((n : Int) == (m : Int)) = true := beq_iff_eq.mpr (by omega)
    have e0 : decide (u.length = f.length) = true := decide_eq_true (by omega)
    have h : sysOk u f k = (unkOk u 1000000000 && unkOk f 1000000000 && inR k 0 1000) := by rw [sysOk, e0, Bool.true_and]
    rw [h]
    clear h e0 hnm hl hl2
    cases hu : unkOk u 1000000000 with
    | false =>
      have HU := hid hu; clear hu
      go_enter Try.func26, Try.ntmps26
      go_wp2_with fail
      refine (impl_areUnknowns A n c u _ _ r (by omega) (by omega)).mono ?_
      rintro e w1 ⟨rfl, b⟩
      rw [HU.out]
      go_wp2
      go_ret
      exact ⟨rfl, b⟩
    | true =>
      cases hf : unkOk f 1000000000 with
      | false =>
        have HU := hid hu; clear hu
        have HF := hid hf; clear hf
        go_enter Try.func26, Try.ntmps26
        go_wp2_with fail
        refine (impl_areUnknowns A n c u _ _ r (by omega) (by omega)).mono ?_
        rintro e w1 ⟨rfl, b⟩
        rw [HU.out]
        go_wp2_with fail
        refine (impl_areUnknowns B m d f _ _ (q.to b) (by omega) (by omega)).mono ?_
        rintro e w2 ⟨rfl, b2⟩
        rw [HF.out]
        go_wp2
        go_ret
        exact ⟨rfl, b.trans b2⟩
      | true =>
        have HU := hid hu; clear hu
        have HF := hid hf; clear hf
        go_enter Try.func26, Try.ntmps26
        go_wp2_with fail
        refine (impl_areUnknowns A n c u _ _ r (by omega) (by omega)).mono ?_
        rintro e w1 ⟨rfl, b⟩
        rw [HU.out]
        go_wp2_with fail
        refine (impl_areUnknowns B m d f _ _ (q.to b) (by omega) (by omega)).mono ?_
        rintro e w2 ⟨rfl, b2⟩
        rw [HF.out]
        go_wp2_with fail
        refine (within _ _ _ _).mono ?_
        rintro e w' ⟨rfl, rfl⟩
        go_wp2
        go_ret
        exact ⟨rfl, b.trans b2⟩
  · have e1 : ((n : Int) == (m : Int)) = false := beq_eq_false_iff_ne.mpr (by omega)
    have h : sysOk u f k = false := by rw [sysOk, decide_eq_false (by omega)]; rfl
    rw [h]
    clear h hnm hl hl2
    go_enter Try.func26, Try.ntmps26
    go_wp2
    go_ret
    exact ⟨rfl, Bw.refl _⟩
theorem l20Number (x : Int) (w : World) : Calls Try.prog 56 #[.int .i64 x] w fun e w' => e = .returned (.bool (inR x (-1000000000) 1000000000)) ∧ w = w' := by
  go_enter Try.func56, Try.ntmps56
  go_wp2_with fail
  refine (l01In _ _ _ _).mono ?_
  rintro e w' ⟨rfl, rfl⟩
  go_wp2
  go_ret
  exact ⟨rfl, rfl⟩
theorem sysOk_yes (u f : List Int) (k : Int) (n : Nat) (hu : u.length = n) (hf : f.length = n) (h1 : inR n 1 64 = true) (hk : inR k 0 1000 = true) (h : ∀ j, j < n → inR (rd u (j : Int)) (-1000000000) 1000000000 = true ∧ inR (rd f (j : Int)) (-1000000000) 1000000000 = true) : sysOk u f k = true := by
  simp only [sysOk, unkOk, hu, hf, h1, hk, decide_true, Bool.true_and, Bool.and_true]
  rw [all_at u _ n hu (fun j hj => (h j hj).1), all_at f _ n hf (fun j hj => (h j hj).2)]
  rfl
theorem sysOk_no (u f : List Int) (k : Int) (n : Nat) (hu : u.length = n) (hf : f.length = n) (j : Nat) (hj : j < n) (h : inR (rd u (j : Int)) (-1000000000) 1000000000 = false ∨ inR (rd f (j : Int)) (-1000000000) 1000000000 = false) : sysOk u f k = false := by
  rcases h with h | h
  · have := not_all_at u (fun x => inR x (-1000000000) 1000000000) j (by omega) h
    simp [sysOk, unkOk, this]
  · have := not_all_at f (fun x => inR x (-1000000000) 1000000000) j (by omega) h
    simp [sysOk, unkOk, this]
set_option maxHeartbeats 1000000 in
theorem spec_SystemOk (A : Option Addr) (n c : Nat) (u : List Int) (B : Option Addr) (m d : Nat) (f : List Int) (k : Int) (w : World) (r : RI w A n u) (q : RI w B m f) :
    Calls Try.prog 33 #[.slice A n c, .slice B m d, .int .i64 k] w fun e w' => e = .returned (.bool (sysOk u f k)) ∧ Drawn0 w w' := by
  have hm := r.max
  have hl := r.len
  have hl2 := q.len
  by_cases hnm : n = m
  · subst hnm
    cases h1 : inR (n : Int) 1 64 with
    | false =>
      have h : sysOk u f k = false := by simp [sysOk, unkOk, hl, h1]
      rw [h]
      have H1 := hid h1
      clear h hl hl2 h1
      go_enter Try.func33, Try.ntmps33
      go_wp2_with fail
      refine (l01In _ _ _ _).mono ?_
      rintro e w' ⟨rfl, rfl⟩
      rw [H1.out]
      go_wp2
      go_ret
      exact ⟨rfl, Drawn0.refl _⟩
    | true =>
      cases h2 : inR k 0 1000 with
      | false =>
        have h : sysOk u f k = false := by simp [sysOk, h2]
        rw [h]
        have H1 := hid h1
        have H2 := hid h2
        clear h hl hl2 h1 h2
        go_enter Try.func33, Try.ntmps33
        go_wp2_with fail
        refine (l01In _ _ _ _).mono ?_
        rintro e w' ⟨rfl, rfl⟩
        rw [H1.out]
        go_wp2_with fail
        refine (l01In _ _ _ _).mono ?_
        rintro e w' ⟨rfl, rfl⟩
        rw [H2.out]
        go_wp2
        go_ret
        exact ⟨rfl, Drawn0.refl _⟩
      | true =>
        have H1 := hid h1
        have H2 := hid h2
        have HL := hid hl
        have HL2 := hid hl2
        clear hl hl2 h1 h2
        go_enter Try.func33, Try.ntmps33
        go_wp2_with fail
        refine (l01In _ _ _ _).mono ?_
        rintro e w' ⟨rfl, rfl⟩
        rw [H1.out]
        go_wp2_with fail
        refine (l01In _ _ _ _).mono ?_
        rintro e w' ⟨rfl, rfl⟩
        rw [H2.out]
        go_wp2
        go_loopw [7] (fun i wr => ∃ j : Nat, j ≤ n ∧ i = .int .i64 j ∧ Hid (∀ p, p < j → inR (rd u (p : Int)) (-1000000000) 1000000000 = true ∧ inR (rd f (p : Int)) (-1000000000) 1000000000 = true) ∧ Hid (Drawn0 w wr)) (fun i _ => n - (intOf i).toNat)
        case atStart => exact ⟨0, by omega, rfl, hid (fun j hj => by omega), hid (Drawn0.refl _)⟩
        case round =>
          obtain ⟨j, hj, rfl, hE, hD⟩ := hrel
          by_cases hlt : j < n
          · obtain ⟨ad, rfl, hc⟩ := (r.dr hD.out).nat j hlt
            obtain ⟨ae, rfl, hc2⟩ := (q.dr hD.out).nat j hlt
            cases hu : inR (rd u (j : Int)) (-1000000000) 1000000000 with
            | false =>
              have HU := hid hu; clear hu
              go_wp2_with fail
              refine (l20Number _ _).mono ?_
              rintro e w' ⟨rfl, rfl⟩
              rw [HU.out]
              go_wp2
              go_ret
              exact ⟨ret_bool (sysOk_no u f k n HL.out HL2.out j hlt (.inl HU.out)).symm, hD.out⟩
            | true =>
              cases hf : inR (rd f (j : Int)) (-1000000000) 1000000000 with
              | false =>
                have HU := hid hu; clear hu
                have HF := hid hf; clear hf
                go_wp2_with fail
                refine (l20Number _ _).mono ?_
                rintro e w' ⟨rfl, rfl⟩
                rw [HU.out]
                go_wp2_with fail
                refine (l20Number _ _).mono ?_
                rintro e w' ⟨rfl, rfl⟩
                rw [HF.out]
                go_wp2
                go_ret
                exact ⟨ret_bool (sysOk_no u f k n HL.out HL2.out j hlt (.inr HF.out)).symm, hD.out⟩
              | true =>
                have HU := hid hu; clear hu
                have HF := hid hf; clear hf
                go_wp2_with fail
                refine (l20Number _ _).mono ?_
                rintro e w' ⟨rfl, rfl⟩
                rw [HU.out]
                go_wp2_with fail
                refine (l20Number _ _).mono ?_
                rintro e w' ⟨rfl, rfl⟩
                rw [HF.out]
                go_wp2
                go_roundw
                case rel => exact ⟨j + 1, by omega, by go_num, hid (fun p hp => by
                  by_cases e : p = j
                  · rw [e]; exact ⟨HU.out, HF.out⟩
                  · exact hE.out p (by omega)), hD⟩
                case measure => simp [intOf]; omega
          · obtain rfl : j = n := by omega
            have hr := hid (sysOk_yes u f k j HL.out HL2.out H1.out H2.out hE.out)
            go_wp2
            go_ret
            exact ⟨ret_bool hr.out.symm, hD.out⟩
  · have h : sysOk u f k = false := by rw [sysOk, decide_eq_false (by omega)]; rfl
    have e1 : ((n : Int) != (m : Int)) = true := bne_iff_ne.mpr (by omega)
    rw [h]
    clear h hl hl2 hnm
    go_enter Try.func33, Try.ntmps33
    go_wp2
    go_ret
    exact ⟨rfl, Drawn0.refl _⟩
end Go.Proofs.Ytpnciejalcdgeaa.U
