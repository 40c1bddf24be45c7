/- DecompressList of the program. -/
import Derived.Test.YtakcljnimggjjaaAp
set_option linter.unusedVariables false
set_option linter.unusedSimpArgs false
namespace Go.Proofs.Ytakcljnimggjjaa.U
open Go.RowKit Go.Lib Go.Proofs.YtakcljnimggjjaaW.PrintWords

/-- k numbers more, each s above the one before; none: one of them leaves the range -/
def inner (s q : Int) : Nat → Int → List Int → Option (Int × List Int)
  | 0, x, o => some (x, o)
  | k + 1, x, o => if inR (x + s) 0 10000000 = true then inner s q k (x + s) (o ++ [q * (x + s)]) else none
def runOk (code : List Int) (j : Nat) (o : List Int) : Bool := inR (rd code (j : Int)) 1 (1000 - o.length) && !(decide (0 < j) && rd code ((j + 1 : Nat) : Int) == rd code ((j - 1 : Nat) : Int)) && inR (rd code ((j + 1 : Nat) : Int)) (-10000000) 10000000
/-- p runs more, from place j on -/
def decode (code : List Int) (q : Int) : Nat → Nat → Int → List Int → Option (List Int)
  | 0, _, _, o => some o
  | p + 1, j, x, o => if runOk code j o = true then (inner (rd code ((j + 1 : Nat) : Int)) q (rd code (j : Int)).toNat x o).bind fun z => decode code q p (j + 2) z.1 z.2 else none
def outcome : Option (List Int) → List Int × Bool
  | some o => (o, true)
  | none => ([], false)
def decompress (code : List Int) (q : Int) : List Int × Bool :=
  if inR q 1 1000000 = true ∧ code.length % 2 = 0 ∧ code.length ≤ 2000 then outcome (decode code q (code.length / 2) 0 0 []) else ([], false)
theorem inner_len {s q : Int} : ∀ (k : Nat) (x : Int) (o : List Int) (z : Int × List Int), inner s q k x o = some z → z.2.length = o.length + k
  | 0, x, o, z, h => by simp [inner] at h; subst h; rfl
  | k + 1, x, o, z, h => by
    unfold inner at h
    split at h
    · have := inner_len k _ _ z h
      simp at this; omega
    · cases h
theorem decode_len {code : List Int} {q : Int} : ∀ (p i : Nat) (x : Int) (o r : List Int), o.length ≤ 1000 → decode code q p i x o = some r → r.length ≤ 1000
  | 0, i, x, o, r, ho, h => by simp [decode] at h; subst h; exact ho
  | p + 1, i, x, o, r, ho, h => by
    unfold decode at h
    split at h
    · rename_i hr
      obtain ⟨z, h1, h2⟩ := Option.bind_eq_some_iff.1 h
      have h3 := inner_len _ _ _ _ h1
      simp only [runOk, Bool.and_eq_true, inR_iff] at hr
      exact decode_len p (i + 2) z.1 z.2 r (by omega) h2
    · cases h
theorem decompress_len (code : List Int) (q : Int) : (decompress code q).1.length ≤ 1048576 := by
  unfold decompress
  split
  · cases h : decode code q (code.length / 2) 0 0 [] with
    | some o =>
      have := decode_len _ _ _ _ _ (by simp) h
      simp [outcome]; omega
    | none => simp [outcome]
  · simp
theorem isQuantum (q : Int) (w : World) : Calls Try.prog 71 #[.int .i64 q] w fun e w' => e = .returned (.bool (inR q 1 1000000)) ∧ w = w' := by
  go_enter Try.func71, Try.ntmps71
  go_wp2_with (go_at_call 78; refine (within _ _ _ _).mono ?_; rintro e w' ⟨rfl, rfl⟩)
  go_ret
  exact ⟨rfl, rfl⟩
theorem isMass (q : Int) (w : World) : Calls Try.prog 72 #[.int .i64 q] w fun e w' => e = .returned (.bool (inR q 0 10000000)) ∧ w = w' := by
  go_enter Try.func72, Try.ntmps72
  go_wp2_with (go_at_call 78; refine (within _ _ _ _).mono ?_; rintro e w' ⟨rfl, rfl⟩)
  go_ret
  exact ⟨rfl, rfl⟩
set_option maxRecDepth 100000 in
set_option maxHeartbeats 8000000 in
theorem impl_DecompressList (A : Option Addr) (n c : Nat) (code : List Int) (q : Int) (w : World) (r : RI w A n code) :
    Calls Try.prog 33 #[.slice A n c, .int .i64 q] w fun e w' => ∃ v, e = .returned (.tuple #[v, .bool (decompress code q).2]) ∧ OI w' w.heap.size v (decompress code q).1.length (decompress code q).1 ∧ Bw w w' := by
  have hl := r.len
  have hm := r.max
  by_cases hg : inR q 1 1000000 = true ∧ n % 2 = 0 ∧ n ≤ 2000
  · obtain ⟨R, hR⟩ : ∃ R, R = decode code q (n / 2) 0 0 [] := ⟨_, rfl⟩
    have hd : decompress code q = outcome R := by rw [decompress, if_pos (by rw [hl]; exact hg), hl, hR]
    have HD := hid hd
    have HR := hid hR
    obtain ⟨g1, g2, g3⟩ := hg
    have gq := inR_iff.1 g1
    have HQ := hid g1
    have HL := hid hl
    have t0 : ((n : Int) % 2 != 0) = false := by simp; omega
    generalize decompress code q = D at *
    obtain ⟨i0, hi0, hz0, hz1, hz2⟩ := info_parts info_int
    have o0 := OI.lit0 w w.heap.size (Nat.le_refl _)
    have b0 : Bw w (w.alloc (.cells #[] 3)) := (Bw.refl w).alloc _
    obtain ⟨q1, q2⟩ := gq
    clear hd hR g1 hl
    obtain ⟨W0, hW0⟩ : ∃ W0 : World, W0 = w.alloc (.cells #[] 3) := ⟨_, rfl⟩
    rw [← hW0] at o0 b0
    go_enter Try.func33, Try.ntmps33
    go_wp2_with (go_at_call 71; refine (isQuantum _ _).mono ?_; rintro e w' ⟨rfl, rfl⟩; rw [HQ.out])
    rw [← hW0]
    clear hW0
    go_loopw [6, 7, 8] (fun v6 v7 v8 wr => ∃ (j : Nat) (x : Int) (o : List Int), j ≤ n ∧ j % 2 = 0 ∧ v8 = .int .i64 j ∧ v7 = .int .i64 x ∧ OI wr w.heap.size v6 o.length o ∧ Bw w wr ∧ Hid (o.length ≤ 1000 ∧ 0 ≤ x ∧ x ≤ 10000000) ∧ Hid (decode code q (n / 2 - j / 2) j x o = R)) (fun _ _ v8 _ => n - (intOf v8).toNat)
    case atStart => exact ⟨0, 0, [], by omega, rfl, rfl, rfl, o0, b0, hid ⟨by simp, by omega, by omega⟩, hid HR.out.symm⟩
    case round =>
      obtain ⟨j, x, o, hj, hj2, rfl, rfl, hO, hB, hX, hS⟩ := hrel
      obtain ⟨Ao, co, rfl, _⟩ := hO.reads
      by_cases hlt : j < n
      · obtain ⟨p, hp⟩ : ∃ p, n / 2 - j / 2 = p + 1 := ⟨n / 2 - j / 2 - 1, by omega⟩
        have hS' := hS.out
        rw [hp, decode] at hS'
        have hj1 : j + 1 < n := by omega
        obtain ⟨ad, rfl, hc0⟩ := (r.to hB).nat j hlt
        obtain ⟨_, e, hc1⟩ := (r.to hB).nat (j + 1) hj1
        obtain rfl := Option.some.inj e
        clear e
        rw [add_pos _ _ (by omega)] at hc1
        push_cast at hc1
        go_wp2
        go_quiet (fail)
        obtain ⟨hX1, hX2, hX3⟩ := hX.out
        have e2 : (0 : Int) ≤ (o.length : Int) := by omega
        cases k1 : inR (rd code (j : Int)) 1 (1000 - o.length) with
        | false =>
          have hno : R = none := by rw [← hS', if_neg]; simp [runOk, k1]
          have HD2 : Hid (D = ([], false)) := hid (by rw [HD.out, hno]; rfl)
          have K1 := hid k1
          clear hS' k1 hno
          go_wp2_with (go_at_call 78; refine (toBool (within _ _ _ _) K1.out).mono ?_; rintro e w' ⟨rfl, rfl⟩)
          go_ret2
          exact ⟨_, by rw [HD2.out]; rfl, by rw [HD2.out]; exact OI.nil _ _, hB.trans (Bw.drawn ⟨⟨_, rfl⟩⟩)⟩
        | true =>
          rcases Nat.eq_zero_or_pos j with h0 | h0
          · have h0' : (j : Int) ≤ 0 := by omega
            cases k3 : inR (rd code ((j + 1 : Nat) : Int)) (-10000000) 10000000 with
            | false =>
              have hno : R = none := by rw [← hS', if_neg (by rw [runOk, k3, Bool.and_false]; decide)]
              have HD2 : Hid (D = ([], false)) := hid (by rw [HD.out, hno]; rfl)
              clear hS' hno
              have K1 := hid k1
              have K3 := hid k3
              clear k1 k3 h0
              push_cast at K3
              go_wp2_with fail
              refine (toBool (within _ _ _ _) K1.out).mono ?_
              rintro e w' ⟨rfl, rfl⟩
              go_wp2_with fail
              refine (toBool (within _ _ _ _) K3.out).mono ?_
              rintro e w' ⟨rfl, rfl⟩
              go_wp2
              go_ret2
              exact ⟨_, by rw [HD2.out]; rfl, by rw [HD2.out]; exact OI.nil _ _, hB.trans (Bw.drawn ⟨⟨_, rfl⟩⟩)⟩
            | true =>
              have hrep : (decide (0 < j) && rd code ((j + 1 : Nat) : Int) == rd code ((j - 1 : Nat) : Int)) = false := by rw [decide_eq_false (by omega)]; rfl
              clear h0
              have hyes : (inner (rd code ((j + 1 : Nat) : Int)) q (rd code (j : Int)).toNat x o).bind (fun z => decode code q p (j + 2) z.1 z.2) = R := by
                rw [← hS', if_pos (by rw [runOk, k1, k3, hrep]; rfl)]
              have k1' := inR_iff.1 k1
              have k3' := inR_iff.1 k3
              have K1 := hid k1
              have K3 := hid k3
              clear hS' k1 k3 hrep
              obtain ⟨F, hF⟩ : ∃ F : Int × List Int → Option (List Int), F = fun z => decode code q p (j + 2) z.1 z.2 := ⟨_, rfl⟩
              rw [← hF] at hyes
              have HF : ∀ x2 o2, Hid (F (x2, o2) = decode code q p (j + 2) x2 o2) := fun x2 o2 => hid (by rw [hF])
              clear hF
              push_cast at hyes k3' K3
              generalize hs : rd code ((j : Int) + 1) = s at *
              generalize hN : rd code (j : Int) = NN at *
              obtain ⟨N, rfl⟩ : ∃ N : Nat, NN = (N : Int) := ⟨NN.toNat, by omega⟩
              rw [Int.toNat_natCast] at hyes
              have HY := hid hyes
              obtain ⟨m1, m2⟩ := k1'
              obtain ⟨m3, m4⟩ := k3'
              clear hyes hs hN
              go_wp2_with fail
              refine (toBool (within _ _ _ _) K1.out).mono ?_
              rintro e w' ⟨rfl, rfl⟩
              go_wp2_with fail
              refine (toBool (within _ _ _ _) K3.out).mono ?_
              rintro e w' ⟨rfl, rfl⟩
              replace hO := hO.to (Bw.drawn ⟨⟨nq, rfl⟩⟩)
              replace hB := hB.trans (Bw.drawn ⟨⟨nq, rfl⟩⟩)
              generalize wr.drewN nq = wo at *
              go_wp2
              go_loopw [6, 7, 66] (fun v6 v7 v66 w2 => ∃ (k : Nat) (x2 : Int) (o2 : List Int), k ≤ N ∧ v66 = .int .i64 k ∧ v7 = .int .i64 x2 ∧ OI w2 w.heap.size v6 o2.length o2 ∧ Bw w w2 ∧ Hid (o2.length + (N - k) ≤ 1000 ∧ 0 ≤ x2 ∧ x2 ≤ 10000000) ∧ Hid ((inner s q (N - k) x2 o2).bind F = R)) (fun _ _ v66 _ => N - (intOf v66).toNat)
              case atStart => exact ⟨0, x, o, by omega, rfl, rfl, hO, hB, hid ⟨by omega, by omega, by omega⟩, hid (by rw [Nat.sub_zero]; exact HY.out)⟩
              case round =>
                clear hO hB hX1 hX2 hX3 hX hS e2
                obtain ⟨k, x2, o2, hk, rfl, rfl, hO2, hB2, hX2, hS2⟩ := hrel
                obtain ⟨Ap, cp, rfl, _⟩ := hO2.reads
                obtain ⟨y1, y2, y3⟩ := hX2.out
                by_cases hkl : k < N
                · have hS3 := hS2.out
                  rw [show N - k = (N - k - 1) + 1 by omega, inner] at hS3
                  cases k5 : inR (x2 + s) 0 10000000 with
                  | false =>
                    rw [k5, if_neg (by decide)] at hS3
                    have HD2 : Hid (D = ([], false)) := hid (by rw [HD.out, ← hS3]; rfl)
                    have K5 := hid k5
                    clear hS3 k5
                    go_wp2_with (go_at_call 72; refine (toBool (isMass _ _) K5.out).mono ?_; rintro e w' ⟨rfl, rfl⟩)
                    go_ret2
                    exact ⟨_, by rw [HD2.out]; rfl, by rw [HD2.out]; exact OI.nil _ _, hB2⟩
                  | true =>
                    rw [k5, if_pos rfl] at hS3
                    have hxs := inR_iff.1 k5
                    have hmr := mul_range (a := q) (b := x2 + s) (A := 1000000) (B := 10000000) (by omega) (by omega) (by omega) (by omega) (by omega)
                    obtain ⟨P, hw1, HP⟩ : ∃ P, wrap64 (q * (x2 + s)) = P ∧ Hid (P = q * (x2 + s)) := ⟨_, w64 (by omega) (by omega), hid rfl⟩
                    rw [← HP.out] at hS3
                    have HS3 := hid hS3
                    have K5 := hid k5
                    obtain ⟨z1, z2⟩ := hxs
                    clear hS3 k5 hmr
                    go_wp2_with (first | (go_at_call 72; refine (toBool (isMass _ _) K5.out).mono ?_; rintro e w' ⟨rfl, rfl⟩) | (at_builtin; refine print_append_num (w0 := w) w.heap.size rfl _ _ 22 3 .i64 8 rfl Try.underlying22 info_int (by omega) (.slice Ap o2.length cp) o2 P rfl rfl hO2.out hB2.out hB2.size (by omega) ?_; intro v1 w3 hown1 hB1 hg1 _))
                    go_roundw
                    case rel => exact ⟨k + 1, x2 + s, o2 ++ [P], by omega, by go_num, rfl, OI.app hown1, ⟨hB1⟩, hid ⟨by simp; omega, by omega, by omega⟩, hid (by rw [show N - (k + 1) = N - k - 1 by omega]; exact HS3.out)⟩
                    case measure => simp [intOf]; omega
                · obtain rfl : k = N := by omega
                  have hS3 := hS2.out
                  rw [Nat.sub_self, inner, Option.bind_some, (HF x2 o2).out] at hS3
                  have HS3 : Hid (decode code q (n / 2 - (j + 2) / 2) (j + 2) x2 o2 = R) := hid (by rw [show n / 2 - (j + 2) / 2 = p by omega]; exact hS3)
                  clear hS3
                  go_wp2
                  go_roundw
                  case rel => exact ⟨j + 2, x2, o2, by omega, by omega, by go_num, rfl, hO2, hB2, hid ⟨by omega, by omega, by omega⟩, HS3⟩
                  case measure => simp [intOf]; omega
          · obtain ⟨_, e, hcm⟩ := (r.to hB).nat (j - 1) (by omega)
            obtain rfl := Option.some.inj e
            clear e
            have e1 : ((j : Int) - 1).toNat = j - 1 := by omega
            by_cases hrp : rd code ((j + 1 : Nat) : Int) = rd code ((j - 1 : Nat) : Int)
            · have hno : R = none := by rw [← hS', if_neg (by rw [runOk, hrp, decide_eq_true h0]; simp)]
              have HD2 : Hid (D = ([], false)) := hid (by rw [HD.out, hno]; rfl)
              have hpp : (rd code ((j : Int) + 1) == rd code ((j - 1 : Nat) : Int)) = true := by rw [← hrp]; push_cast; simp
              have K1 := hid k1
              clear hS' hno k1 hrp
              generalize rd code ((j - 1 : Nat) : Int) = y at *
              go_wp2_with (go_at_call 78; refine (toBool (within _ _ _ _) K1.out).mono ?_; rintro e w' ⟨rfl, rfl⟩)
              go_ret2
              exact ⟨_, by rw [HD2.out]; rfl, by rw [HD2.out]; exact OI.nil _ _, hB.trans (Bw.drawn ⟨⟨_, rfl⟩⟩)⟩
            · have hpp : (rd code ((j : Int) + 1) == rd code ((j - 1 : Nat) : Int)) = false := by rw [beq_eq_false_iff_ne]; push_cast at hrp; exact hrp
              cases k3 : inR (rd code ((j + 1 : Nat) : Int)) (-10000000) 10000000 with
              | false =>
                have hno : R = none := by rw [← hS', if_neg (by rw [runOk, k3, Bool.and_false]; decide)]
                have HD2 : Hid (D = ([], false)) := hid (by rw [HD.out, hno]; rfl)
                clear hS' hno
                have K1 := hid k1
                have K3 := hid k3
                clear k1 k3 hrp
                generalize rd code ((j - 1 : Nat) : Int) = y at *
                push_cast at K3
                go_wp2_with fail
                refine (toBool (within _ _ _ _) K1.out).mono ?_
                rintro e w' ⟨rfl, rfl⟩
                go_wp2_with fail
                refine (toBool (within _ _ _ _) K3.out).mono ?_
                rintro e w' ⟨rfl, rfl⟩
                go_wp2
                go_ret2
                exact ⟨_, by rw [HD2.out]; rfl, by rw [HD2.out]; exact OI.nil _ _, hB.trans (Bw.drawn ⟨⟨_, rfl⟩⟩)⟩
              | true =>
                have hrep : (decide (0 < j) && rd code ((j + 1 : Nat) : Int) == rd code ((j - 1 : Nat) : Int)) = false := by rw [decide_eq_true h0, beq_eq_false_iff_ne.2 hrp]; rfl
                clear hrp
                have hyy : ∃ y, y = rd code ((j - 1 : Nat) : Int) := ⟨_, rfl⟩
                have hyes : (inner (rd code ((j + 1 : Nat) : Int)) q (rd code (j : Int)).toNat x o).bind (fun z => decode code q p (j + 2) z.1 z.2) = R := by
                  rw [← hS', if_pos (by rw [runOk, k1, k3, hrep]; rfl)]
                have k1' := inR_iff.1 k1
                have k3' := inR_iff.1 k3
                have K1 := hid k1
                have K3 := hid k3
                clear hS' k1 k3 hrep
                obtain ⟨F, hF⟩ : ∃ F : Int × List Int → Option (List Int), F = fun z => decode code q p (j + 2) z.1 z.2 := ⟨_, rfl⟩
                rw [← hF] at hyes
                have HF : ∀ x2 o2, Hid (F (x2, o2) = decode code q p (j + 2) x2 o2) := fun x2 o2 => hid (by rw [hF])
                clear hF
                push_cast at hyes k3' K3
                generalize hs : rd code ((j : Int) + 1) = s at *
                generalize hN : rd code (j : Int) = NN at *
                obtain ⟨N, rfl⟩ : ∃ N : Nat, NN = (N : Int) := ⟨NN.toNat, by omega⟩
                rw [Int.toNat_natCast] at hyes
                have HY := hid hyes
                obtain ⟨m1, m2⟩ := k1'
                obtain ⟨m3, m4⟩ := k3'
                clear hyes hs hN
                go_wp2_with fail
                refine (toBool (within _ _ _ _) K1.out).mono ?_
                rintro e w' ⟨rfl, rfl⟩
                go_wp2_with fail
                refine (toBool (within _ _ _ _) K3.out).mono ?_
                rintro e w' ⟨rfl, rfl⟩
                replace hO := hO.to (Bw.drawn ⟨⟨nq, rfl⟩⟩)
                replace hB := hB.trans (Bw.drawn ⟨⟨nq, rfl⟩⟩)
                generalize wr.drewN nq = wo at *
                go_wp2
                go_loopw [6, 7, 66] (fun v6 v7 v66 w2 => ∃ (k : Nat) (x2 : Int) (o2 : List Int), k ≤ N ∧ v66 = .int .i64 k ∧ v7 = .int .i64 x2 ∧ OI w2 w.heap.size v6 o2.length o2 ∧ Bw w w2 ∧ Hid (o2.length + (N - k) ≤ 1000 ∧ 0 ≤ x2 ∧ x2 ≤ 10000000) ∧ Hid ((inner s q (N - k) x2 o2).bind F = R)) (fun _ _ v66 _ => N - (intOf v66).toNat)
                case atStart => exact ⟨0, x, o, by omega, rfl, rfl, hO, hB, hid ⟨by omega, by omega, by omega⟩, hid (by rw [Nat.sub_zero]; exact HY.out)⟩
                case round =>
                  clear hO hB hX1 hX2 hX3 hX hS e2
                  obtain ⟨k, x2, o2, hk, rfl, rfl, hO2, hB2, hX2, hS2⟩ := hrel
                  obtain ⟨Ap, cp, rfl, _⟩ := hO2.reads
                  obtain ⟨y1, y2, y3⟩ := hX2.out
                  by_cases hkl : k < N
                  · have hS3 := hS2.out
                    rw [show N - k = (N - k - 1) + 1 by omega, inner] at hS3
                    cases k5 : inR (x2 + s) 0 10000000 with
                    | false =>
                      rw [k5, if_neg (by decide)] at hS3
                      have HD2 : Hid (D = ([], false)) := hid (by rw [HD.out, ← hS3]; rfl)
                      have K5 := hid k5
                      clear hS3 k5
                      go_wp2_with (go_at_call 72; refine (toBool (isMass _ _) K5.out).mono ?_; rintro e w' ⟨rfl, rfl⟩)
                      go_ret2
                      exact ⟨_, by rw [HD2.out]; rfl, by rw [HD2.out]; exact OI.nil _ _, hB2⟩
                    | true =>
                      rw [k5, if_pos rfl] at hS3
                      have hxs := inR_iff.1 k5
                      have hmr := mul_range (a := q) (b := x2 + s) (A := 1000000) (B := 10000000) (by omega) (by omega) (by omega) (by omega) (by omega)
                      obtain ⟨P, hw1, HP⟩ : ∃ P, wrap64 (q * (x2 + s)) = P ∧ Hid (P = q * (x2 + s)) := ⟨_, w64 (by omega) (by omega), hid rfl⟩
                      rw [← HP.out] at hS3
                      have HS3 := hid hS3
                      have K5 := hid k5
                      obtain ⟨z1, z2⟩ := hxs
                      clear hS3 k5 hmr
                      go_wp2_with (first | (go_at_call 72; refine (toBool (isMass _ _) K5.out).mono ?_; rintro e w' ⟨rfl, rfl⟩) | (at_builtin; refine print_append_num (w0 := w) w.heap.size rfl _ _ 22 3 .i64 8 rfl Try.underlying22 info_int (by omega) (.slice Ap o2.length cp) o2 P rfl rfl hO2.out hB2.out hB2.size (by omega) ?_; intro v1 w3 hown1 hB1 hg1 _))
                      go_roundw
                      case rel => exact ⟨k + 1, x2 + s, o2 ++ [P], by omega, by go_num, rfl, OI.app hown1, ⟨hB1⟩, hid ⟨by simp; omega, by omega, by omega⟩, hid (by rw [show N - (k + 1) = N - k - 1 by omega]; exact HS3.out)⟩
                      case measure => simp [intOf]; omega
                  · obtain rfl : k = N := by omega
                    have hS3 := hS2.out
                    rw [Nat.sub_self, inner, Option.bind_some, (HF x2 o2).out] at hS3
                    have HS3 : Hid (decode code q (n / 2 - (j + 2) / 2) (j + 2) x2 o2 = R) := hid (by rw [show n / 2 - (j + 2) / 2 = p by omega]; exact hS3)
                    clear hS3
                    go_wp2
                    go_roundw
                    case rel => exact ⟨j + 2, x2, o2, by omega, by omega, by go_num, rfl, hO2, hB2, hid ⟨by omega, by omega, by omega⟩, HS3⟩
                    case measure => simp [intOf]; omega
      · obtain rfl : j = n := by omega
        have hS' := hS.out
        rw [Nat.sub_self, decode] at hS'
        have HD2 : Hid (D = (o, true)) := hid (by rw [HD.out, ← hS']; rfl)
        clear hS'
        go_wp2
        go_ret2
        exact ⟨_, by rw [HD2.out]; rfl, by rw [HD2.out]; exact hO, hB⟩
  · have hd : decompress code q = ([], false) := by rw [decompress, if_neg (by rw [hl]; exact hg)]
    rw [hd]
    clear hd
    cases hq : inR q 1 1000000 with
    | false =>
      have HQ := hid hq; clear hq hl hg
      go_enter Try.func33, Try.ntmps33
      go_wp2_with (go_at_call 71; refine (isQuantum _ _).mono ?_; rintro e w' ⟨rfl, rfl⟩; rw [HQ.out])
      go_ret2
      exact ⟨_, rfl, OI.nil _ _, Bw.refl _⟩
    | true =>
      have HQ := hid hq
      have hg' : ¬ (n % 2 = 0 ∧ n ≤ 2000) := fun h => hg ⟨hq, h⟩
      clear hq hg hl
      by_cases h2 : n % 2 = 0
      · have t0 : ((n : Int) % 2 != 0) = false := by simp; omega
        have h3 : 2000 < n := by omega
        clear hg' h2
        go_enter Try.func33, Try.ntmps33
        go_wp2_with (go_at_call 71; refine (isQuantum _ _).mono ?_; rintro e w' ⟨rfl, rfl⟩; rw [HQ.out])
        go_ret2
        exact ⟨_, rfl, OI.nil _ _, Bw.refl _⟩
      · have t0 : ((n : Int) % 2 != 0) = true := by simp; omega
        clear hg' h2
        go_enter Try.func33, Try.ntmps33
        go_wp2_with (go_at_call 71; refine (isQuantum _ _).mono ?_; rintro e w' ⟨rfl, rfl⟩; rw [HQ.out])
        go_ret2
        exact ⟨_, rfl, OI.nil _ _, Bw.refl _⟩
end Go.Proofs.Ytakcljnimggjjaa.U
