
/- The law FnWeights returns true at all codes. -/
import Derived.Test.YtaemkneppphkmaaDv
import Derived.Test.YtaemkneppphkmaaWo
import Derived.Test.YtaemkneppphkmaaBa
import Derived.Test.YtaemkneppphkmaaSi
import Derived.Test.YtaemkneppphkmaaOs
set_option linter.unusedVariables false
set_option linter.unusedSimpArgs false
namespace Go.Proofs.Ytaemkneppphkmaa.U
open Go.RowKit Go.Lib Go.Proofs.YtaemkneppphkmaaW.PrintWords

theorem FO.idR {w : World} {base n c : Nat} {A : Option Addr} {l : List Ce} (h : FO w base 32 3 (.slice A n c) n (idF l)) : IdR w A n l := (FO.fr h).id
theorem wts_rd {l : List Ce} {i : Nat} (h : i < l.length) : rd (wts l) (i : Int) = pow2 (gc l i).l := by
  rw [rd_nat, List.getD_eq_getElem?_getD, List.getElem?_eq_getElem (by rw [wts_length]; exact h), Option.getD_some]
  simp only [wts, List.getElem_map, gc_at h]
theorem wts_psum (l : List Ce) : ∀ i, i ≤ l.length → (i : Int) ≤ psum (wts l) i ∧ psum (wts l) i ≤ 16 * i
  | 0, _ => by rw [psum_zero]; omega
  | i + 1, h => by
    have ih := wts_psum l i (by omega)
    rw [psum_succ (by rw [wts_length]; omega), wts_rd (by omega)]
    have := pow2_range (gc l i).l
    omega
theorem wts_ok {l : List Ce} (h : l.length ≤ 1000) : wOk (wts l) = true := wOk_iff.2 ⟨by rw [wts_length]; exact h, fun x hx => by
  obtain ⟨y, _, rfl⟩ := List.mem_map.1 hx
  have := pow2_range y.l
  omega⟩
theorem pow2_wid {l : Int} (h : 0 ≤ l ∧ l ≤ 4) : pow2 l * wid l = 16 := by
  have : l = 0 ∨ l = 1 ∨ l = 2 ∨ l = 3 ∨ l = 4 := by omega
  rcases this with e | e | e | e | e <;> rw [e] <;> rfl
theorem fewest_all {l : List Int} (hw : wOk l = true) (hn : l.length ≠ 0) : fewest l (psum l l.length) = 1 := by
  have h1 := (fewest_enough hw hn (psum l l.length) 1).1 (all_enough hw hn 1 (Nat.le_refl _))
  have h2 := (all_enough hw hn 1 (Nat.le_refl _)).1
  have h3 : 2 ≤ (cutsL l (psum l l.length)).length := by
    have := (cutTo_len l (psum l l.length) l.length).1
    simp [cutsL]
    omega
  unfold fewest at h1 ⊢
  rw [if_pos hw, if_neg hn, if_pos h2] at h1 ⊢
  omega
theorem max_all {l : List Int} (hw : wOk l = true) : maxPart l [0, (l.length : Int)] = psum l l.length := by
  have hc : cutsOk l.length [0, (l.length : Int)] = true := by
    simp only [cutsOk, Bool.and_eq_true, inR_iff, beq_iff_eq, ascB_iff]
    refine ⟨⟨⟨by simp, by simp [rd]⟩, by simp [rd]⟩, fun j h1 hj => ?_⟩
    simp at hj
    obtain rfl : j = 1 := by omega
    simp [rd]
  have h0 := psum_mono hw (Nat.zero_le l.length) (Nat.le_refl _)
  rw [psum_zero] at h0
  rw [maxPart, if_pos ⟨hc, hw⟩]
  show bigMax 0 (partOf l [0, (l.length : Int)] 0).sum = _
  rw [part_psum _ _ _ (by simp [rd]), bigMax_max]
  simp [rd, psum_zero]
  omega
set_option maxHeartbeats 4000000 in
set_option maxRecDepth 100000 in
theorem law_Weights (A : Option Addr) (n c : Nat) (l : List Int) (w : World) (r : ReadsInt w .u8 A n l) (wf : ∀ x ∈ l, 0 ≤ x ∧ x ≤ 255) :
    Calls Try.prog 3 #[.slice A n c] w fun e w' => e = .returned (.bool true) ∧ Bw w w' := by
  have WF := hid wf
  clear wf
  by_cases hb : n ≤ 1048576
  · have t1 : decide (1048576 < (n : Int)) = false := decide_eq_false (by omega)
    have T1 := hid t1
    clear t1
    go_enter Try.func3, Try.ntmps3
    go_wp2_with fail
    refine (toBool (lawbig _ _ _ _) T1.out).mono ?_
    rintro e w1 ⟨rfl, rfl⟩
    go_wp2_with fail
    refine (DrawMesh A n c l _ r WF.out hb).mono ?_
    rintro e w1 ⟨ro, X, m, y, lv, rfl, hm, ho, b1⟩
    have hl := ho.idR.len
    have hmo := hm.ok
    have h128 := meshOk_len hmo
    have rI := (ho.idR).to (Bw.box1 w1 (.cells #[.int .i64 ro, .slice X m y] 26))
    have g0 := box_cell (Bw.refl (w1.alloc (.cells #[.int .i64 ro, .slice X m y] 26))) 0
    have g1 := box_cell (Bw.refl (w1.alloc (.cells #[.int .i64 ro, .slice X m y] 26))) 1
    simp only [List.getElem?_toArray, List.getElem?_cons_zero, List.getElem?_cons_succ] at g0 g1
    have b2 := b1.trans (Bw.box1 w1 (.cells #[.int .i64 ro, .slice X m y] 26))
    have HLV := hid (meshOk_lvs hmo)
    have HMO := hid hmo
    have hm1 : 1 ≤ m ∧ m ≤ 128 := by omega
    clear hmo h128 b1 ho hm
    go_wp2_with fail
    generalize (w1.alloc (.cells #[.int .i64 ro, .slice X m y] 26)) = w2 at *
    refine (impl_WeightsOf ro X m y lv _ rI HMO.out).mono ?_
    rintro e w3 ⟨v, rfl, ow, b3⟩
    rw [wts_length, hl] at ow
    obtain ⟨Y, c3, rfl, rw3⟩ := ow.reads
    have hcap := ow.cap
    replace g0 := pw_cell_below b3.out g0
    replace g1 := pw_cell_below b3.out g1
    replace rI := rI.to b3
    have HB3 := hid (b2.trans b3)
    have HL := hid hl
    have tne : ((m : Int) != (m : Int)) = false := by simp
    have HPS := hid (wts_psum lv)
    clear ow b2 b3 hl
    go_wp2
    go_loopw [5, 6] (fun v5 v6 wr => ∃ i : Nat, i ≤ m ∧ v6 = .int .i64 i ∧ v5 = .int .i64 (psum (wts lv) i) ∧ Hid (Bw w3 wr)) (fun _ v6 _ => m - (intOf v6).toNat)
    case atStart => exact ⟨0, by omega, rfl, by rw [psum_zero], hid (Bw.refl _)⟩
    case round =>
      obtain ⟨i, hi, rfl, rfl, hB⟩ := hrel
      replace g0 := pw_cell_below hB.out.out g0
      replace g1 := pw_cell_below hB.out.out g1
      by_cases hlt : i < m
      · have u1 : decide ((i : Int) < (m : Int)) = true := decide_eq_true (by omega)
        have hp := HPS.out i (by rw [HL.out]; omega)
        have hp1 := HPS.out (i + 1) (by rw [HL.out]; omega)
        rw [psum_succ (by rw [wts_length, HL.out]; omega)] at hp1
        have hps : psum (wts lv) (i + 1) = psum (wts lv) i + rd (wts lv) (i : Int) := psum_succ (by rw [wts_length, HL.out]; omega)
        obtain ⟨ad, rfl, hc⟩ := (rw3.to hB.out).nat i hlt
        obtain ⟨ae, rfl, x0, x1, x2⟩ := (rI.to hB.out).at i hlt
        have hlv := HLV.out.out i (by rw [HL.out]; exact hlt)
        have hpw := pow2_wid hlv
        rw [wts_rd (by rw [HL.out]; exact hlt)] at hc hps hp1
        generalize (gc lv i).l = lev at *
        obtain ⟨p, hpe⟩ : ∃ p, pow2 lev = p := ⟨_, rfl⟩
        rw [hpe] at hc hps hp1 hpw
        have ea : IntKind.i64.wrap (psum (wts lv) i + p) = psum (wts lv) (i + 1) := by rw [hps]; exact i64w (by omega) (by omega)
        have eb : IntKind.i64.wrap (p * wid lev) = 16 := by rw [hpw]; rfl
        have HQ := hid hps
        have i4 : (0 : Int) ≤ (i : Int) := by omega
        have i5 : (i : Int) < (m : Int) := by omega
        clear hp hp1 hps hpw hpe hlv
        go_wp2
        go_quiet ((go_at_call 11; exact Calls.quiet_of_same ((spec_WidthOf lev _).mono fun e w' h => ⟨h.1, h.2.symm⟩)))
        go_wp2
        go_roundw
        case rel => exact ⟨i + 1, by omega, by go_num, rfl, hid (hB.out.trans (Bw.drawn ⟨⟨_, rfl⟩⟩))⟩
        case measure => simp [intOf]; omega
      · obtain rfl : i = m := by omega
        have u1 : decide ((i : Int) < (i : Int)) = false := decide_eq_false (by omega)
        have hok := wts_ok (l := lv) (by rw [HL.out]; omega)
        have hwl : (wts lv).length = i := by rw [wts_length, HL.out]
        have hF := hid (fewest_all hok (by rw [hwl]; omega))
        have hM := hid (max_all hok)
        rw [hwl] at hF hM
        have hp := HPS.out i (by rw [HL.out]; omega)
        have rw4 := rw3.to hB.out
        have HOK := hid hok
        go_wp2_with fail
        refine (impl_FewestParts Y i c3 (wts lv) (psum (wts lv) i) _ rw4 (by omega)).mono ?_
        rintro e w5 ⟨rfl, b5⟩
        rw [hF.out]
        go_wp2_with fail
        refine (impl_MaxPart Y i c3 (wts lv) _ _ _ [0, (i : Int)] _ ((rw4.to b5).to (Bw.box1 w5 (.cells #[.int .i64 0, .int .i64 (i : Int)] 3))) (lit2 w5 0 (i : Int)) hcap).mono ?_
        rintro e w6 ⟨rfl, d6⟩
        rw [hM.out]
        go_wp2
        go_ret
        exact ⟨rfl, ((HB3.out.trans hB.out).trans b5).trans ((Bw.box1 w5 (.cells #[.int .i64 0, .int .i64 (i : Int)] 3)).trans (Bw.drawn d6))⟩
  · have t1 : decide (1048576 < (n : Int)) = true := decide_eq_true (by omega)
    have T1 := hid t1
    clear t1
    go_enter Try.func3, Try.ntmps3
    go_wp2_with fail
    refine (toBool (lawbig _ _ _ _) T1.out).mono ?_
    rintro e w1 ⟨rfl, rfl⟩
    go_wp2
    go_ret
    exact ⟨rfl, Bw.refl _⟩
end Go.Proofs.Ytaemkneppphkmaa.U
