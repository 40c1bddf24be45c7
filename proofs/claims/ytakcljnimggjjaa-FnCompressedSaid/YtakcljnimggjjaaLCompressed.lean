/- The law FnCompressed returns true at all codes. -/
import Derived.Test.YtakcljnimggjjaaDm
import Derived.Test.YtakcljnimggjjaaDi
import Derived.Test.YtakcljnimggjjaaCo
import Derived.Test.YtakcljnimggjjaaEo
import Derived.Test.YtakcljnimggjjaaSi
import Derived.Test.YtakcljnimggjjaaPd
import Derived.Test.YtakcljnimggjjaaQz
set_option linter.unusedVariables false
set_option linter.unusedSimpArgs false
namespace Go.Proofs.Ytakcljnimggjjaa.U
open Go.RowKit Go.Lib Go.Proofs.YtakcljnimggjjaaW.PrintWords

theorem rem400 (x : Int) (h : 0 ≤ x ∧ x < 10000) : x.tmod 400 = x % 400 ∧ 0 ≤ x % 400 ∧ x % 400 < 400 := ⟨Int.tmod_eq_emod_of_nonneg h.1, Int.emod_nonneg _ (by omega), Int.emod_lt_of_pos _ (by omega)⟩
set_option maxHeartbeats 8000000 in
set_option maxRecDepth 100000 in
theorem law_Compressed (A : Option Addr) (n c : Nat) (l : List Int) (w : World) (r : ReadsInt w .u8 A n l) (wf : ∀ x ∈ l, 0 ≤ x ∧ x ≤ 255) :
    Calls Try.prog 7 #[.slice A n c] w fun e w' => e = .returned (.bool true) ∧ Bw w w' := by
  have WF := hid wf
  clear wf
  by_cases hb : n ≤ 1048576
  · have t1 : decide (1048576 < (n : Int)) = false := decide_eq_false (by omega)
    have T1 := hid t1
    clear t1
    go_enter Try.func7, Try.ntmps7
    go_wp2_with fail
    refine (toBool (lawbig _ _ _ _) T1.out).mono ?_
    rintro e w1 ⟨rfl, rfl⟩
    go_wp2_with fail
    refine (DrawMasses A n c l _ r WF.out hb).mono ?_
    rintro e w1 ⟨B, m, b, u, rfl, hu, ⟨hm1, hm2, hub⟩, b1⟩
    have ru := hu.ri
    have hlu := hu.len
    have HUB := hid hub
    clear hu hub
    go_wp2_with fail
    refine (DrawPlaces A n c l _ (r.below b1.out) WF.out hb).mono ?_
    rintro e w2 ⟨P, m2, pc, ps, rfl, hp, ⟨hpn, hpb⟩, b2⟩
    subst hpn
    have rp := hp.ri
    have hp0 : 0 ≤ rd ps 0 ∧ rd ps 0 < 10000 := hpb _ (by
      have h := hp.len
      rw [show rd ps 0 = ps.getD 0 0 from rd_nat ps 0, List.getD_eq_getElem?_getD, List.getElem?_eq_getElem (by omega)]
      exact List.getElem_mem (by omega))
    replace ru := ru.to b2
    replace b1 := b1.trans b2
    clear hp hpb b2
    obtain ⟨ap, rfl, hcp⟩ := rp.nat 0 (by omega)
    have hcp0 : w2.cell? ap = some (.int .i64 (rd ps 0)) := hcp
    clear hcp rp
    obtain ⟨hr1, hr2, hr3⟩ := rem400 _ hp0
    have hq1 : 1 ≤ 1 + rd ps 0 % 400 ∧ 1 + rd ps 0 % 400 ≤ 400 := by omega
    obtain ⟨C, D, X, e0, z, hC, hX, hXl, hD, hY, hA, hA2, hE, hE0, hBU, hBX, hI0, hIQ, hZ, hZ0, hX0⟩ := compressed_facts u m (1 + rd ps 0 % 400) hlu ⟨hm1, hm2⟩ HUB.out hq1
    have HC : Hid ((compress u (1 + rd ps 0 % 400)).1 = C) := hid (by rw [hC])
    have HCb2 : Hid ((compress u (1 + rd ps 0 % 400)).2 = true) := hid (by rw [hC])
    have HX : Hid ((decompress C (1 + rd ps 0 % 400)).1 = X) := hid (by rw [hX])
    have HXb2 : Hid ((decompress C (1 + rd ps 0 % 400)).2 = true) := hid (by rw [hX])
    have HXL := hid hXl
    have HD : Hid ((compress u 1).1 = D) := hid (by rw [hD])
    have HDb2 : Hid ((compress u 1).2 = true) := hid (by rw [hD])
    have HY : Hid ((decompress D 1).1 = u) := hid (by rw [hY])
    have HYb2 : Hid ((decompress D 1).2 = true) := hid (by rw [hY])
    have HA := hid hA
    have HA2 := hid hA2
    have HE := hid hE
    have HBU := hid hBU
    have HBX := hid hBX
    have HI0 := hid hI0
    have HIQ := hid hIQ
    have HZ := hid hZ
    have HX0 := hid hX0
    have HLU := hid hlu
    clear hC hX hXl hD hY hA hA2 hE hBU hBX hI0 hIQ hZ hX0 hlu hr1
    generalize rd ps 0 = p0 at *
    go_wp2_with fail
    clear hr2 hr3 hp0
    generalize 1 + p0 % 400 = q at *
    refine (impl_CompressList _ m b u _ _ ru).mono ?_
    rintro e w3 ⟨V, rfl, o, b3⟩
    rw [HC.out] at o
    rw [HCb2.out]
    obtain ⟨nc, hnc⟩ : ∃ nc, nc = C.length := ⟨_, rfl⟩
    rw [← hnc] at o
    obtain ⟨Ac, cc, rfl, rc⟩ := o.reads
    replace ru := ru.to b3
    replace b1 := b1.trans b3
    clear b3 o hcp0
    have HNC := hid hnc
    clear hnc
    go_wp2_with fail
    refine (impl_DecompressList Ac nc cc C _ _ rc).mono ?_
    rintro e w4 ⟨V, rfl, o, b4⟩
    rw [HX.out] at o
    rw [HXb2.out]
    rw [HXL.out] at o
    obtain ⟨Ax, cx, rfl, rx⟩ := o.reads
    replace ru := ru.to b4
    replace rc := rc.to b4
    replace b1 := b1.trans b4
    clear b4 o
    go_wp2_with fail
    refine (impl_CompressList _ m b u _ _ ru).mono ?_
    rintro e w5 ⟨V, rfl, o, b5⟩
    rw [HD.out] at o
    rw [HDb2.out]
    obtain ⟨Ad, cd, rfl, rD⟩ := o.reads
    replace ru := ru.to b5
    replace rc := rc.to b5
    replace rx := rx.to b5
    replace b1 := b1.trans b5
    clear b5 o
    go_wp2_with fail
    refine (impl_DecompressList Ad _ cd D _ _ rD).mono ?_
    rintro e w6 ⟨V, rfl, o, b6⟩
    rw [HY.out] at o
    rw [HYb2.out]
    rw [HLU.out] at o
    obtain ⟨Ay, cy, rfl, ry⟩ := o.reads
    replace ru := ru.to b6
    replace rc := rc.to b6
    replace rx := rx.to b6
    replace b1 := b1.trans b6
    clear b6 o rD
    go_wp2_with fail
    refine (impl_CompressList _ m cx X _ _ rx).mono ?_
    rintro e w7 ⟨V, rfl, o, b7⟩
    rw [HA.out, ← HNC.out] at o
    rw [HA2.out]
    obtain ⟨Aa, ca, rfl, ra⟩ := o.reads
    replace ru := ru.to b7
    replace rc := rc.to b7
    replace rx := rx.to b7
    replace ry := ry.to b7
    replace b1 := b1.trans b7
    clear b7 o
    obtain ⟨au, rfl, hcu⟩ := ru.nat 0 (by omega)
    obtain ⟨ax, rfl, hcx⟩ := rx.nat 0 (by omega)
    have hcu0 : w7.cell? au = some (.int .i64 (rd u 0)) := hcu
    have hcx0 : w7.cell? ax = some (.int .i64 (rd X 0)) := hcx
    rw [HX0.out] at hcx0
    clear hcu hcx
    have g0 : (0 : Int) ≤ 0 := by omega
    have g1 : (0 : Int) < (m : Int) := by omega
    have gz : z * q = q * z := Int.mul_comm _ _
    have gb : 0 ≤ z * q ∧ z * q ≤ 9200 * 400 := ⟨Int.mul_nonneg hZ0.1 (by omega), Int.mul_le_mul hZ0.2 hq1.2 (by omega) (by omega)⟩
    rw [← gz] at hcx0
    have j2 : IntKind.i64.wrap (2 * e0) = 2 * e0 := i64w (by omega) (by omega)
    have t2 : decide (0 ≤ e0) = true := decide_eq_true hE0.1
    have t3 : decide (2 * e0 ≤ q) = true := decide_eq_true hE0.2
    have t4 : ((m : Int) == (m : Int)) = true := beq_self_eq_true _
    have t5 : (z * q == z * q) = true := beq_self_eq_true _
    generalize rd u 0 = u0 at *
    obtain ⟨zq, hzq⟩ : ∃ zq, zq = z * q := ⟨_, rfl⟩
    have t6 : (zq == zq) = true := beq_self_eq_true _
    have j3 : wrap64 (z * q) = zq := by rw [hzq]; exact w64 (by omega) (by omega)
    rw [← hzq] at hcx0
    have j1 : IntKind.i64.wrap (z * q) = zq := by rw [hzq]; exact i64w (by omega) (by omega)
    clear gz gb hzq hZ0 hE0 t5
    go_wp2
    go_quiet (first | (go_at_call 34; first | (with_reducible refine quietD (sameInts_yes Ay m cy (some au) b u _ ?_ ?_) <;> first | exact ry.dr ⟨⟨_, rfl⟩⟩ | exact ru.dr ⟨⟨_, rfl⟩⟩) | (with_reducible refine quietD (sameInts_yes Aa nc ca Ac cc C _ ?_ ?_) <;> first | exact ra.dr ⟨⟨_, rfl⟩⟩ | exact rc.dr ⟨⟨_, rfl⟩⟩)) | (go_at_call 35; exact Calls.quiet_of_same ((impl_ErrorOf _ m _ u _ _ X _ (ru.dr ⟨⟨_, rfl⟩⟩) (rx.dr ⟨⟨_, rfl⟩⟩) HBU.out HBX.out).mono fun e w' h => ⟨by rw [h.1, HE.out], h.2.symm⟩)) | (go_at_call 36; exact Calls.quiet_of_same ((impl_Quantize _ _ _ HI0.out HIQ.out).mono fun e w' h => ⟨by rw [h.1, HZ.out], h.2.symm⟩)))
    go_wp2
    go_ret
    exact ⟨rfl, b1.trans (Bw.drawn ⟨⟨_, rfl⟩⟩)⟩
  · have t1 : decide (1048576 < (n : Int)) = true := decide_eq_true (by omega)
    have T1 := hid t1
    clear t1
    go_enter Try.func7, Try.ntmps7
    go_wp2_with fail
    refine (toBool (lawbig _ _ _ _) T1.out).mono ?_
    rintro e w1 ⟨rfl, rfl⟩
    go_wp2
    go_ret
    exact ⟨rfl, Bw.refl _⟩
end Go.Proofs.Ytakcljnimggjjaa.U
