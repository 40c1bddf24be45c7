
/- The law FnCoarseParts returns true at all codes. -/
import Derived.Test.YtpnciejalcdgeaaDp
import Derived.Test.YtpnciejalcdgeaaCy
import Derived.Test.YtpnciejalcdgeaaSi
set_option linter.unusedVariables false
set_option linter.unusedSimpArgs false
namespace Go.Proofs.Ytpnciejalcdgeaa.U
open Go.RowKit Go.Lib Go.Proofs.YtpnciejalcdgeaaW.PrintWords

theorem mean_self (u : List Int) (N i : Nat) (hi : 2 * i < N) : meanAt (fineTo u N) N i = rd u (i : Int) := by
  unfold meanAt
  have e1 : rd (fineTo u N) ((2 * i : Nat) : Int) = rd u (i : Int) := by rw [fineTo, rd_map (fun i => rd u ((i / 2 : Nat) : Int)) N (2 * i) (by omega), show 2 * i / 2 = i by omega]
  split
  · rename_i h
    have e2 : rd (fineTo u N) ((2 * i + 1 : Nat) : Int) = rd u (i : Int) := by rw [fineTo, rd_map (fun i => rd u ((i / 2 : Nat) : Int)) N (2 * i + 1) h, show (2 * i + 1) / 2 = i by omega]
    rw [e1, e2]
    omega
  · exact e1
theorem coarse_fine (u : List Int) (m N : Nat) (hl : u.length = m) (hm : 1 ≤ m ∧ m ≤ 16) (hN : (N + 1) / 2 = m) (hN1 : 1 ≤ N) (hu : Bd u 15000) : coarseL (fineTo u N) = u := by
  have hb : Bd (fineTo u N) 15000 := ⟨fun j hj => by
    rw [fineTo_length] at hj
    rw [fineTo, rd_map (fun i => rd u ((i / 2 : Nat) : Int)) N j hj]
    exact hu.out _ (by omega)⟩
  have hk : unkOk (fineTo u N) 10000000000000 = true := unkOk_iff.2 ⟨by rw [fineTo_length]; omega, (hb.mono (by omega)).mem⟩
  rw [coarseL, if_pos hk, fineTo_length, hN, coTo]
  apply List.ext_getElem
  · simp [hl]
  · intro i h1 h2
    simp only [List.getElem_map, List.getElem_range]
    rw [mean_self u N i (by omega), rd_nat, List.getD_eq_getElem?_getD, List.getElem?_eq_getElem h2]
    rfl
theorem cyc_len (u f : List Int) (k : Int) (m : Nat) (hl : u.length = m) (hlf : f.length = m) (hm : 1 ≤ m ∧ m ≤ 16) (hu : Bd u 15000) (hf : Bd f 15000) (hk : 0 ≤ k ∧ k ≤ 1000) : (cycleL u f k).length = m := by
  have hs : sysOk u f k = true := by
    simp only [sysOk, Bool.and_eq_true, decide_eq_true_eq]
    exact ⟨⟨⟨by omega, unkOk_iff.2 ⟨by omega, (hu.mono (by omega)).mem⟩⟩, unkOk_iff.2 ⟨by omega, (hf.mono (by omega)).mem⟩⟩, inR_iff.2 hk⟩
  rw [cycleL, if_pos hs, cycL_length u f k u.length rfl, hl]
set_option maxHeartbeats 8000000 in
set_option maxRecDepth 100000 in
theorem law_CoarseParts (A : Option Addr) (n c : Nat) (l : List Int) (w : World) (r : ReadsInt w .u8 A n l) (wf : ∀ x ∈ l, 0 ≤ x ∧ x ≤ 255) :
    Calls Try.prog 3 #[.slice A n c] w fun e w' => e = .returned (.bool true) ∧ Bw w w' := by
  have WF := hid wf
  clear wf
  by_cases hb : n ≤ 1048576
  · have t1 : decide (1048576 < (n : Int)) = false := decide_eq_false (by omega)
    have T1 := hid t1
    clear t1
    go_enter Try.func3, Try.ntmps3
    go_wp2_with fail
    refine (toBool (lawbig _ _ _ _) T1.out).mono ?_
    rintro e w1 ⟨rfl, rfl⟩
    go_wp2_with fail
    refine (DrawSystem A n c l _ r WF.out hb).mono ?_
    rintro e w1 ⟨B, C, b, d, m, u, f, k, rfl, hu, hf, ha, hub, hfb, hm, hk, b1⟩
    obtain ⟨N, hN⟩ : ∃ N : Nat, (N : Int) = 2 * (m : Int) - k % 2 := ⟨(2 * (m : Int) - k % 2).toNat, by omega⟩
    have hN1 : 1 ≤ N ∧ N ≤ 64 := by omega
    have hN2 : (N + 1) / 2 = m := by omega
    have HCF := hid (coarse_fine u m N hu.len hm hN2 hN1.1 hub)
    have HCL := hid (cyc_len u f k m hu.len hf.len hm hub hfb hk)
    have HFL := hid (fineTo_length u N)
    have HM := hid hN2.symm
    have HUL := hid hu.len
    have hk2 : Hid (2 * (m : Int) - k % 2 = (N : Int)) := hid hN.symm
    have hcd : m ≤ d := hf.cap
    have ru := hu.ri
    have rf := hf.ri
    have t2 : decide ((m : Int) > 32) = false := decide_eq_false (by omega)
    have i0 : (0 : Int) ≤ k % 2 := by omega
    have i1 : k % 2 ≤ 1 := by omega
    have i2 : Int.tmod k 2 = k % 2 := Int.tmod_eq_emod_of_nonneg hk.1
    clear hN hN2 ha hu hf hub hfb
    go_wp2_with fail
    rw [hk2.out]
    refine (impl_FinePart B m b N u _ ru hN1 HM.out).mono ?_
    rintro e w2 ⟨v, rfl, o, b2⟩
    have hcN := o.reads
    obtain ⟨E, cE, rfl, rE⟩ := hcN
    have hcap := o.cap
    replace ru := ru.to b2
    replace rf := rf.to b2
    replace b1 := b1.trans b2
    clear b2 o
    go_wp2_with fail
    refine (impl_Cycle B m b u C m d f k _ ru rf).mono ?_
    rintro e w3 ⟨v, rfl, o, b3⟩
    rw [HCL.out] at o
    obtain ⟨D, dd, rfl, _⟩ := o.reads
    replace ru := ru.to b3
    replace rE := rE.to b3
    replace b1 := b1.trans b3
    clear b3 o
    have e1 : ((N : Int) == (N : Int)) = true := by simp
    have e2 : ((m : Int) == (m : Int)) = true := by simp
    go_wp2_with fail
    refine (impl_CoarsePart E N cE (fineTo u N) _ rE hcap).mono ?_
    rintro e w4 ⟨v, rfl, o, b4⟩
    rw [HCF.out, HUL.out] at o
    obtain ⟨D4, d4, rfl, r4⟩ := o.reads
    replace ru := ru.to b4
    replace b1 := b1.trans b4
    clear b4 o
    go_wp2_with fail
    refine (sameInts_yes _ m _ _ _ u _ r4 ru).mono ?_
    rintro e w5 ⟨rfl, b5⟩
    go_wp2
    go_ret
    exact ⟨rfl, b1.trans (Bw.drawn b5)⟩
  · have t1 : decide (1048576 < (n : Int)) = true := decide_eq_true (by omega)
    have T1 := hid t1
    clear t1
    go_enter Try.func3, Try.ntmps3
    go_wp2_with fail
    refine (toBool (lawbig _ _ _ _) T1.out).mono ?_
    rintro e w1 ⟨rfl, rfl⟩
    go_wp2
    go_ret
    exact ⟨rfl, Bw.refl _⟩
end Go.Proofs.Ytpnciejalcdgeaa.U
