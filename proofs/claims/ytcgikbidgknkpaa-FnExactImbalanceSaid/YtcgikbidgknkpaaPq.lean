
/- PartitionOf of the reference. -/
import Derived.Test.YtcgikbidgknkpaaPp
set_option linter.unusedVariables false
set_option linter.unusedSimpArgs false
namespace Go.Proofs.Ytcgikbidgknkpaa.U
open Go.RowKit Go.Lib Go.Proofs.YtcgikbidgknkpaaW.PrintWords

theorem cutsL_length_le (l : List Int) (m : Int) (h : l.length ≤ 1000) : (cutsL l m).length ≤ 1002 := by
  have := cuts_len_le l m
  omega
theorem top_fits_ge {l : List Int} (hw : wOk l = true) (hn : l.length ≠ 0) {m : Int} (h : topTo l l.length ≤ m) : fits l m = true := by
  have h1 := top_fits l m l.length rfl hw hn
  rw [decide_eq_false (by omega)] at h1
  cases hf : fits l m
  · rw [hf] at h1; cases h1
  · rfl
theorem spec_enough {l : List Int} (hw : wOk l = true) (hn : l.length ≠ 0) {m : Int} (k : Nat) (h : topTo l l.length ≤ m) : Enough l m k ↔ fewest l m ≤ k := by
  rw [fewest_enough hw hn]
  have hf := top_fits_ge hw hn h
  have : 0 ≤ fewest l m := by
    unfold fewest
    rw [if_pos hw, if_neg hn, if_pos hf]
    simp [cutsL]
  constructor
  · exact fun h => h.2
  · exact fun h => ⟨this, h⟩
set_option maxRecDepth 100000 in
set_option maxHeartbeats 8000000 in
theorem spec_PartitionOf (A : Option Addr) (n c : Nat) (l : List Int) (k : Int) (w : World) (r : RI w A n l) (hcap : n ≤ c) :
    Calls Try.prog 52 #[.slice A n c, .int .i64 k] w fun e w' => ∃ v, e = .returned (.tuple #[v, .int .i64 (partL l k).2]) ∧ OI w' w.heap.size v (partL l k).1.length (partL l k).1 ∧ Bw w w' := by
  have hl := r.len
  have hmax := r.max
  have o0 : OI (w.alloc (.cells #[] 3)) w.heap.size (.slice (some ⟨w.heap.size, 0, none⟩) 0 0) 0 [] := OI.lit0 w w.heap.size (Nat.le_refl _)
  have b0 : Bw w (w.alloc (.cells #[] 3)) := ⟨below_alloc (Below.refl _ _) _⟩
  cases hin : inR k 1 16 with
  | false =>
    have hp : partL l k = ([], -1) := by simp [partL, hin]
    rw [hp]
    have HI := hid hin
    clear hin hl hp r
    go_enter Try.func52, Try.ntmps52
    go_wp2_with (go_at_call 62; refine (l01In _ _ _ _).mono ?_; rintro e w' ⟨rfl, rfl⟩; rw [HI.out])
    go_ret2
    exact ⟨_, rfl, o0, b0⟩
  | true =>
    have HI := hid hin
    have hk := inR_iff.1 hin
    by_cases h0 : n = 0
    · have hp : partL l k = ([], -1) := by simp [partL, hl, h0]
      rw [hp]
      have t0 : ((n : Int) == 0) = true := beq_iff_eq.2 (by omega)
      clear hin hl hp r h0 hk
      go_enter Try.func52, Try.ntmps52
      go_wp2_with (go_at_call 62; refine (l01In _ _ _ _).mono ?_; rintro e w' ⟨rfl, rfl⟩; rw [HI.out])
      go_ret2
      exact ⟨_, rfl, o0, b0⟩
    · have t0 : ((n : Int) == 0) = false := beq_eq_false_iff_ne.2 (by omega)
      have T0 := hid t0
      cases hw : wOk l with
      | false =>
        have hp : partL l k = ([], -1) := by simp [partL, hw]
        rw [hp]
        have HW := hid hw
        clear hin hl hp h0 hk hw o0 b0
        go_enter Try.func52, Try.ntmps52
        go_wp2_with fail
        refine (l01In _ _ _ _).mono ?_
        rintro e w' ⟨rfl, rfl⟩
        rw [HI.out]
        go_wp2_with fail
        refine (l22Weights _ _ _ _ _ r).mono ?_
        rintro e w2 ⟨rfl, d1⟩
        rw [HW.out]
        have o0 : OI (w2.alloc (.cells #[] 3)) w.heap.size (.slice (some ⟨w2.heap.size, 0, none⟩) 0 0) 0 [] := OI.lit0 w2 w.heap.size (Bw.drawn d1).out.size
        have b0 : Bw w (w2.alloc (.cells #[] 3)) := (Bw.drawn d1).trans ⟨below_alloc (Below.refl _ _) _⟩
        go_wp2
        go_ret2
        exact ⟨_, rfl, o0, b0⟩
      | true =>
        obtain ⟨kn, rfl⟩ : ∃ kn : Nat, k = (kn : Int) := ⟨k.toNat, by omega⟩
        have hp : partL l (kn : Int) = (cutsOf l kn, bestOf l kn) := by simp [partL, hin, hw, hl, h0]
        rw [hp]
        obtain ⟨R, hR⟩ : ∃ R, R = cutsOf l kn := ⟨_, rfl⟩
        obtain ⟨M, hM⟩ : ∃ M, M = bestOf l kn := ⟨_, rfl⟩
        rw [← hR, ← hM]
        show Calls _ _ _ _ (fun e w' => ∃ v, e = .returned (.tuple #[v, .int .i64 M]) ∧ OI w' w.heap.size v R.length R ∧ Bw w w')
        have HR := hid hR
        have HM := hid hM
        clear hR hM o0 b0
        have hn0 : l.length ≠ 0 := by omega
        obtain ⟨N, hN⟩ : ∃ N : Nat, (N : Int) = l.sum := ⟨l.sum.toNat, by have := sum_range hw; omega⟩
        have hNb : N ≤ 1000000000 := by have := sum_range hw; omega
        obtain ⟨T, hT⟩ : ∃ T : Nat, (T : Int) = topTo l n := ⟨(topTo l n).toNat, by have := topTo_nn l n; omega⟩
        have hTN : T ≤ N := by
          have h1 := top_sum hw l.length (Nat.le_refl _)
          rw [← sum_psum, hl] at h1
          omega
        have hsp : Hid (∀ m : Int, (T : Int) ≤ m → (Enough l m kn ↔ fewest l m ≤ kn)) := hid (fun m hm => spec_enough hw hn0 kn (by rw [hl]; omega))
        have HW := hid hw
        have HSO := hid (wOk_sum hw)
        have HALL := hid (show Enough l (N : Int) kn by rw [hN, sum_psum]; exact all_enough hw hn0 kn (by omega))
        have HLEAST := hid (show ∀ x : Int, x < (T : Int) → ¬ Enough l x kn from fun x hx => top_least hw hn0 kn x (by rw [hl]; omega))
        have HT := hid hT
        have HN := hid hN
        have HN0 := hid hn0
        have HL := hid hl
        have hlen : n ≤ 1000 := by have := (wOk_iff.1 hw).1; omega
        have hk1 : 1 ≤ kn ∧ kn ≤ 16 := by omega
        clear hin hl hp hw hN hn0 hk t0 hT
        go_enter Try.func52, Try.ntmps52
        go_wp2_with fail
        refine (l01In _ _ _ _).mono ?_
        rintro e w' ⟨rfl, rfl⟩
        rw [HI.out]
        have t0 := T0.out
        go_wp2_with fail
        refine (l22Weights _ _ _ _ _ r).mono ?_
        rintro e w2 ⟨rfl, d1⟩
        rw [HW.out]
        have b0 := Bw.drawn d1
        replace r := r.to b0
        clear d1
        go_wp2_with fail
        refine (l22Top _ _ _ _ _ r).mono ?_
        rintro e w' ⟨rfl, rfl⟩
        rw [← HT.out]
        go_wp2_with fail
        refine (l07Sum _ _ _ _ _ r HSO.out).mono ?_
        rintro e w' ⟨rfl, rfl⟩
        rw [← HN.out]
        clear t0
        go_wp2
        go_loopw [6, 7] (fun v6 v7 wr => ∃ i j : Nat, T ≤ i ∧ i ≤ j ∧ j ≤ N ∧ v6 = .int .i64 i ∧ v7 = .int .i64 j ∧ Hid (Enough l (j : Int) kn ∧ ∀ x : Int, x < (i : Int) → ¬ Enough l x kn) ∧ Bw w2 wr) (fun v6 v7 _ => (intOf v7).toNat - (intOf v6).toNat)
        case atStart => exact ⟨T, N, Nat.le_refl _, hTN, Nat.le_refl _, rfl, rfl, hid ⟨HALL.out, HLEAST.out⟩, Bw.refl _⟩
        case round =>
          obtain ⟨i, j, hTi, hij, hjN, rfl, rfl, hE, hB⟩ := hrel
          by_cases hlt : i < j
          · have t1 : decide ((i : Int) < (j : Int)) = true := decide_eq_true (by omega)
            obtain ⟨h, hh⟩ : ∃ h, h = (i + j) / 2 := ⟨_, rfl⟩
            have hh1 : i ≤ h ∧ h < j := by omega
            have hq : ((i : Int) + (j : Int)) / 2 = (h : Int) := by omega
            have HQ := hid hq
            have HT1 := hid t1
            clear hh hq
            go_wp2_with fail
            rw [HQ.out]
            refine (spec_FewestParts A n c l _ _ (r.to hB) (by omega)).mono ?_
            rintro e w3 ⟨rfl, b3⟩
            by_cases he : Enough l (h : Int) kn
            · have t2 : decide (fewest l (h : Int) ≤ (kn : Int)) = true := decide_eq_true ((hsp.out _ (by omega)).1 he)
              have HE := hid he
              generalize fewest l (h : Int) = F at *
              go_wp2
              go_roundw
              case rel => exact ⟨i, h, hTi, hh1.1, by omega, rfl, by go_num, hid ⟨HE.out, hE.out.2⟩, hB.trans b3⟩
              case measure => simp [intOf]; omega
            · have t2 : decide (fewest l (h : Int) ≤ (kn : Int)) = false := decide_eq_false (fun h2 => he ((hsp.out _ (by omega)).2 h2))
              have HE := hid he
              generalize fewest l (h : Int) = F at *
              go_wp2
              go_roundw
              case rel => exact ⟨h + 1, j, by omega, by omega, hjN, by go_num, rfl, hid ⟨hE.out.1, fun x hx hx2 => HE.out (hx2.up HW.out HN0.out (by omega))⟩, hB.trans b3⟩
              case measure => simp [intOf]; omega
          · obtain rfl : i = j := by omega
            have t1 : decide ((i : Int) < (i : Int)) = false := decide_eq_false (by omega)
            have hb : IsBest l kn (i : Int) := ⟨hE.out.1, hE.out.2⟩
            obtain ⟨f1, f2, f3, f4, f5, f6⟩ := best_cuts HW.out HN0.out hk1.1 hk1.2 hb
            have HMAX := hid f3
            have HRE := hid (HR.out.trans f4)
            have HRC := hid HR.out
            have HME := hid (HM.out.trans hb.eq)
            have hpad := hid (show (cutsL l (i : Int)).length + (kn + 1 - (cutsL l (i : Int)).length) = kn + 1 by omega)
            clear hE hb f1 f2 f3 f4 HR HM HALL HLEAST hsp
            have r2 := r.to hB
            replace b0 := b0.trans hB
            go_wp2_with fail
            refine (l22Cut A n c l _ _ r2 HW.out (by omega)).mono ?_
            rintro e w4 ⟨v, rfl, o, b4⟩
            obtain ⟨L, hL⟩ : ∃ L, L = cutsL l (i : Int) := ⟨_, rfl⟩
            rw [← hL] at o f5 f6 hpad HRE
            rw [HL.out] at HRE
            clear hL
            obtain ⟨A7, d7, rfl, _⟩ := o.reads
            generalize wr = w3 at *
            clear t1 hB
            go_wp2
            go_loopw [9] (fun v7 wr => ∃ q t : Nat, q = L.length + t ∧ q ≤ kn + 1 ∧ OI wr w3.heap.size v7 q (L ++ List.replicate t (n : Int)) ∧ Bw w3 wr) (fun v7 _ => kn + 1 - lenOf v7)
            case atStart => exact ⟨L.length, 0, rfl, f5, by simpa using o, b4⟩
            case round =>
              obtain ⟨q, t, hq, hqk, hO, hB⟩ := hrel
              obtain ⟨Ao, co, rfl, _⟩ := hO.reads
              have hO2 : OI wr w3.heap.size (.slice Ao q co) (L ++ List.replicate t (n : Int)).length (L ++ List.replicate t (n : Int)) := by rw [List.length_append, List.length_replicate, ← hq]; exact hO
              have HLEN := hid (show (L ++ List.replicate t (n : Int)).length = q by rw [List.length_append, List.length_replicate]; omega)
              by_cases hlt : q < kn + 1
              · have t1 : decide ((q : Int) < (kn : Int) + 1) = true := decide_eq_true (by omega)
                have HQ := hid hq
                clear hq
                go_wp2_with (at_builtin; refine print_append_num (w0 := w3) w3.heap.size rfl _ _ 27 3 .i64 8 rfl Try.underlying27 info_int (by omega) (.slice Ao q co) (L ++ List.replicate t (n : Int)) (n : Int) rfl rfl hO2.out hB.out hB.size (by have := HLEN.out; omega) ?_; intro v1 w5 hown1 hB1 hg1 _)
                go_roundw
                case rel => exact ⟨q + 1, t + 1, by have := HQ.out; omega, by omega, by
                  have h := OI.app hown1
                  rw [List.append_assoc, ← List.replicate_succ', List.length_append, List.length_replicate, ← Nat.add_assoc, ← HQ.out] at h
                  exact h, ⟨hB1⟩⟩
                case measure => have h := OI.app hown1; obtain ⟨_, _, rfl, _⟩ := h.reads; have := HQ.out; simp [lenOf]; omega
              · have t1 : decide ((q : Int) < (kn : Int) + 1) = false := decide_eq_false (by omega)
                have ht : kn + 1 - L.length = t := by omega
                have hre : L ++ List.replicate t (n : Int) = R := by rw [HRE.out, ht]
                rw [hre] at hO
                have HQ := hid hq
                have hRl : q = R.length := by rw [← hre, List.length_append, List.length_replicate]; exact hq
                have HRL := hid hRl
                clear hq ht hre hRl
                go_wp2_with fail
                refine (spec_MaxPart A n c l _ _ _ R _ (r2.to hB) hO.ri hcap).mono ?_
                rintro e w5 ⟨rfl, d5⟩
                rw [show maxPart l R = M by rw [HRC.out, HMAX.out, HME.out]]
                go_wp2
                go_ret2
                exact ⟨_, rfl, by
                  rw [← HRL.out]
                  exact (hO.base b0.out.size).to (Bw.drawn d5), (b0.trans hB).trans (Bw.drawn d5)⟩
theorem partL_len (l : List Int) (k : Int) : (partL l k).1.length ≤ 1048576 := by
  unfold partL
  split
  · rename_i h
    have h1 := inR_iff.1 h.1
    have h2 := cutsL_length_le l (bestOf l k.toNat) (wOk_iff.1 h.2.2).1
    simp only [cutsOf, List.length_append, List.length_replicate]
    omega
  · simp
theorem partL_nat {l : List Int} {k : Nat} (h1 : inR (k : Int) 1 16 = true) (h2 : l.length ≠ 0) (h3 : wOk l = true) : partL l (k : Int) = (cutsOf l k, bestOf l k) := by simp [partL, h1, h2, h3]
end Go.Proofs.Ytcgikbidgknkpaa.U
