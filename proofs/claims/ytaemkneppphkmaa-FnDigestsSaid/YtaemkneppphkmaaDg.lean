
/- The digest of a state. -/
import Derived.Test.YtaemkneppphkmaaSe
set_option linter.unusedVariables false
set_option linter.unusedSimpArgs false
namespace Go.Proofs.Ytaemkneppphkmaa.U
open Go.RowKit Go.Lib Go.Proofs.YtaemkneppphkmaaW.PrintWords

/-- one step of the digest over a leaf -/
def leafStep (r lev m t : Int) : Int := (((r * 31 + lev) * 31 + m) * 31 + t) % 1000003
def leafD (s : Sta) : Nat → Int
  | 0 => 1
  | j + 1 => leafStep (leafD s j) (gc s.lv j).l (rd s.ms (j : Int)) (rd s.ts (j : Int))
def bedD (bd : List Int) (r : Int) : Nat → Int
  | 0 => r
  | j + 1 => (bedD bd r j * 31 + rd bd (j : Int)) % 1000003
def digS (s : Sta) : Int := bedD s.bd (leafD s s.lv.length) s.bd.length
theorem leafD_range (s : Sta) : ∀ j, 0 ≤ leafD s j ∧ leafD s j < 1000003
  | 0 => by simp [leafD]
  | j + 1 => by rw [leafD, leafStep]; exact ⟨Int.emod_nonneg _ (by omega), Int.emod_lt_of_pos _ (by omega)⟩
theorem bedD_range (bd : List Int) (r : Int) (h : 0 ≤ r ∧ r < 1000003) : ∀ j, 0 ≤ bedD bd r j ∧ bedD bd r j < 1000003
  | 0 => h
  | j + 1 => by rw [bedD]; exact ⟨Int.emod_nonneg _ (by omega), Int.emod_lt_of_pos _ (by omega)⟩
theorem digS_range (s : Sta) : 0 ≤ digS s ∧ digS s < 1000003 := bedD_range _ _ (leafD_range s _) _
set_option maxHeartbeats 4000000 in
set_option maxRecDepth 100000 in
theorem impl_DigestOf (x : Value) (s : Sta) (w : World) (hx : StR w x s) (ho : staOk s.ro s.lv s.ms s.ts s.bd = true) :
    Calls Try.prog 16 #[x] w fun e w' => e = .returned (.int .i64 (digS s)) ∧ Bw w w' := by
  obtain ⟨A0, c0, A1, c1, A2, c2, A3, c3, rfl, r0, r1, r2, r3⟩ := hx
  have hst := ho
  simp only [staOk, isBal, hasC, Bool.and_eq_true, decide_eq_true_iff] at hst
  obtain ⟨⟨hm, _⟩, ⟨⟨⟨⟨⟨hms, hts⟩, hbl⟩, hbd⟩, hcs⟩, _⟩⟩ := hst
  have hml := meshOk_len hm
  have HC := hid (cellsOk_at s.ms s.ts s.lv.length 0 hcs)
  have HBD := hid (fun x hx => inR_iff.1 (List.all_eq_true.1 hbd x hx))
  have HLV := hid (meshOk_lvs hm)
  have HMS := hid hms
  have HTS := hid hts
  have HO := hid ho
  obtain ⟨D, hD⟩ : ∃ D, digS s = D := ⟨_, rfl⟩
  have HD := hid hD
  rw [hD]
  obtain ⟨n, hn⟩ : ∃ n, s.lv.length = n := ⟨_, rfl⟩
  obtain ⟨k, hk⟩ : ∃ k, s.bd.length = k := ⟨_, rfl⟩
  have hn8 : n ≤ 128 ∧ k ≤ 8 := by omega
  have HN := hid hn
  have HKL := hid hk
  rw [hms] at r1
  rw [hts] at r2
  rw [hms, hts, hk, hn]
  rw [hn] at r0 r1 r2
  rw [hk] at r3
  have b0 := Bw.box1 w (.cells #[.int .i64 s.ro, .slice A0 n c0, .slice A1 n c1, .slice A2 n c2, .slice A3 k c3] 36)
  have g0 := box_cell (Bw.refl (w.alloc (.cells #[.int .i64 s.ro, .slice A0 n c0, .slice A1 n c1, .slice A2 n c2, .slice A3 k c3] 36))) 0
  have g1 := box_cell (Bw.refl (w.alloc (.cells #[.int .i64 s.ro, .slice A0 n c0, .slice A1 n c1, .slice A2 n c2, .slice A3 k c3] 36))) 1
  have g2 := box_cell (Bw.refl (w.alloc (.cells #[.int .i64 s.ro, .slice A0 n c0, .slice A1 n c1, .slice A2 n c2, .slice A3 k c3] 36))) 2
  have g3 := box_cell (Bw.refl (w.alloc (.cells #[.int .i64 s.ro, .slice A0 n c0, .slice A1 n c1, .slice A2 n c2, .slice A3 k c3] 36))) 3
  have g4 := box_cell (Bw.refl (w.alloc (.cells #[.int .i64 s.ro, .slice A0 n c0, .slice A1 n c1, .slice A2 n c2, .slice A3 k c3] 36))) 4
  simp only [List.getElem?_toArray, List.getElem?_cons_zero, List.getElem?_cons_succ] at g0 g1 g2 g3 g4
  clear hm hms hts hbl hbd hcs hml ho hD hn hk
  go_enter Try.func16, Try.ntmps16
  go_wp2_with fail
  refine (impl_StateOk _ A0 _ c0 s.lv A1 _ c1 s.ms A2 _ c2 s.ts A3 _ c3 s.bd _ (r0.to b0) (r1.to b0) (r2.to b0) (r3.to b0)).mono ?_
  rintro e_ w1 ⟨rfl, b1⟩
  rw [HO.out]
  replace g0 := pw_cell_below b1.out g0
  replace g1 := pw_cell_below b1.out g1
  replace g2 := pw_cell_below b1.out g2
  replace g3 := pw_cell_below b1.out g3
  replace g4 := pw_cell_below b1.out g4
  have HB1 := hid (b0.trans b1)
  clear b0 b1
  go_wp2
  go_loopw [3, 15] (fun v3 v15 wr => ∃ j : Nat, j ≤ n ∧ v15 = .int .i64 j ∧ v3 = .int .i64 (leafD s j) ∧ Hid (Bw w1 wr)) (fun _ v15 _ => n - (intOf v15).toNat)
  case atStart => exact ⟨0, by omega, rfl, rfl, hid (Bw.refl _)⟩
  case round =>
    obtain ⟨j, hj, rfl, rfl, hB⟩ := hrel
    replace g0 := pw_cell_below hB.out.out g0
    replace g1 := pw_cell_below hB.out.out g1
    replace g2 := pw_cell_below hB.out.out g2
    replace g3 := pw_cell_below hB.out.out g3
    replace g4 := pw_cell_below hB.out.out g4
    by_cases hlt : j < n
    · have t1 : decide ((j : Int) < (n : Int)) = true := decide_eq_true (by omega)
      obtain ⟨ad, rfl, x0, x1, x2⟩ := ((r0.to HB1.out).to hB.out).at j hlt
      obtain ⟨am, rfl, hcm⟩ := ((r1.to HB1.out).to hB.out).nat j hlt
      obtain ⟨at_, rfl, hct⟩ := ((r2.to HB1.out).to hB.out).nat j hlt
      have hlev := HLV.out.out j (by rw [HN.out]; exact hlt)
      have hcc := HC.out j (by omega) (by rw [HN.out]; omega)
      have hL := leafD_range s j
      have hnext : leafD s (j + 1) = leafStep (leafD s j) (gc s.lv j).l (rd s.ms (j : Int)) (rd s.ts (j : Int)) := rfl
      generalize (gc s.lv j).r = z0 at *
      generalize (gc s.lv j).l = lev at *
      generalize (gc s.lv j).i = z2 at *
      generalize rd s.ms (j : Int) = m at *
      generalize rd s.ts (j : Int) = t at *
      obtain ⟨L, hLe⟩ : ∃ L, leafD s j = L := ⟨_, rfl⟩
      rw [hLe] at hL hnext ⊢
      obtain ⟨N, hN⟩ : ∃ N, leafD s (j + 1) = N := ⟨_, rfl⟩
      rw [hN] at hnext
      rw [leafStep] at hnext
      have e1 : IntKind.i64.wrap (L * 31) = L * 31 := i64w (by omega) (by omega)
      have e2 : IntKind.i64.wrap (L * 31 + lev) = L * 31 + lev := by clear e1; exact i64w (by omega) (by omega)
      have e3 : IntKind.i64.wrap ((L * 31 + lev) * 31) = (L * 31 + lev) * 31 := by clear e1 e2; exact i64w (by omega) (by omega)
      have e4 : IntKind.i64.wrap ((L * 31 + lev) * 31 + m) = (L * 31 + lev) * 31 + m := by clear e1 e2 e3; exact i64w (by omega) (by omega)
      have e5 : IntKind.i64.wrap (((L * 31 + lev) * 31 + m) * 31) = ((L * 31 + lev) * 31 + m) * 31 := by clear e1 e2 e3 e4; exact i64w (by omega) (by omega)
      have e6 : IntKind.i64.wrap (((L * 31 + lev) * 31 + m) * 31 + t) = ((L * 31 + lev) * 31 + m) * 31 + t := by clear e1 e2 e3 e4 e5; exact i64w (by omega) (by omega)
      have h0 : 0 ≤ ((L * 31 + lev) * 31 + m) * 31 + t := by clear e1 e2 e3 e4 e5 e6; omega
      have e7 : Int.tmod (((L * 31 + lev) * 31 + m) * 31 + t) 1000003 = N := by rw [hnext]; exact Int.tmod_eq_emod_of_nonneg h0
      have HNX := hid hN
      have HLE := hid hLe
      have i4 : (0 : Int) ≤ (j : Int) := by clear e1 e2 e3 e4 e5 e6 e7; omega
      have i5 : (j : Int) < (n : Int) := by clear e1 e2 e3 e4 e5 e6 e7; omega
      have bX := Bw.box1 wr (.cells #[.int .i64 z0, .int .i64 lev, .int .i64 z2] 32)
      replace g2 := pw_cell_below bX.out g2
      replace g3 := pw_cell_below bX.out g3
      replace hcm := pw_cell_below bX.out hcm
      replace hct := pw_cell_below bX.out hct
      have HBX := hid bX
      clear hlev hcc hL hnext hN hLe h0 bX
      go_wp2
      go_quiet (fail)
      go_wp2
      clear e1 e2 e3 e4 e5 e6 e7
      go_roundw
      case rel => exact ⟨j + 1, by omega, by go_num, by rw [HNX.out], hid (hB.out.trans (HBX.out.trans (Bw.drawn ⟨⟨_, rfl⟩⟩)))⟩
      case measure => simp [intOf]; omega
    · obtain rfl : j = n := by omega
      have t1 : decide ((j : Int) < (j : Int)) = false := decide_eq_false (by omega)
      obtain ⟨L, hLe⟩ : ∃ L, leafD s j = L := ⟨_, rfl⟩
      have hL := leafD_range s j
      rw [hLe] at hL ⊢
      have HLE := hid hLe
      have HL := hid hL
      clear hLe hL
      go_wp2
      go_loopw [3, 44] (fun v3 v44 wq => ∃ i : Nat, i ≤ k ∧ v44 = .int .i64 i ∧ v3 = .int .i64 (bedD s.bd L i) ∧ Hid (Bw wr wq)) (fun _ v44 _ => k - (intOf v44).toNat)
      case atStart => exact ⟨0, by omega, rfl, rfl, hid (Bw.refl _)⟩
      case round =>
        obtain ⟨i, hi, rfl, rfl, hB2⟩ := hrel
        by_cases hlt2 : i < k
        · have u1 : decide ((i : Int) < (k : Int)) = true := decide_eq_true (by omega)
          obtain ⟨ab, rfl, hcb⟩ := (((r3.to HB1.out).to hB.out).to hB2.out).nat i hlt2
          have hb2 : 0 ≤ rd s.bd (i : Int) ∧ rd s.bd (i : Int) ≤ 1000000 := HBD.out _ (by
            rw [rd_nat, List.getD_eq_getElem?_getD, List.getElem?_eq_getElem (by rw [HKL.out]; exact hlt2)]
            exact List.getElem_mem _)
          have hR := bedD_range s.bd L HL.out i
          have hnext : bedD s.bd L (i + 1) = (bedD s.bd L i * 31 + rd s.bd (i : Int)) % 1000003 := rfl
          generalize rd s.bd (i : Int) = b at *
          obtain ⟨Q, hQ⟩ : ∃ Q, bedD s.bd L i = Q := ⟨_, rfl⟩
          rw [hQ] at hR hnext ⊢
          obtain ⟨N, hN⟩ : ∃ N, bedD s.bd L (i + 1) = N := ⟨_, rfl⟩
          rw [hN] at hnext
          have e1 : IntKind.i64.wrap (Q * 31) = Q * 31 := i64w (by omega) (by omega)
          have e2 : IntKind.i64.wrap (Q * 31 + b) = Q * 31 + b := by clear e1; exact i64w (by omega) (by omega)
          have h0 : 0 ≤ Q * 31 + b := by clear e1 e2; omega
          have e7 : Int.tmod (Q * 31 + b) 1000003 = N := by rw [hnext]; exact Int.tmod_eq_emod_of_nonneg h0
          have HNX := hid hN
          have i4 : (0 : Int) ≤ (i : Int) := by clear e1 e2 e7; omega
          have i5 : (i : Int) < (k : Int) := by clear e1 e2 e7; omega
          clear hb2 hR hnext hN hQ h0
          go_wp2
          clear e1 e2 e7
          go_roundw
          case rel => exact ⟨i + 1, by omega, by go_num, by rw [HNX.out], hid hB2.out⟩
          case measure => simp [intOf]; omega
        · obtain rfl : i = k := by omega
          have u1 : decide ((i : Int) < (i : Int)) = false := decide_eq_false (by omega)
          go_wp2
          go_ret
          exact ⟨ret_int (by rw [← HD.out, digS, HN.out, HKL.out, HLE.out]), (HB1.out.trans hB.out).trans hB2.out⟩
end Go.Proofs.Ytaemkneppphkmaa.U
