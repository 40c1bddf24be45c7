/- The law FnExactSolutions returns true at all codes. -/
import Derived.Test.YtakcljnimggjjaaDp
import Derived.Test.YtakcljnimggjjaaEb
import Derived.Test.YtakcljnimggjjaaRx
import Derived.Test.YtakcljnimggjjaaSi
set_option linter.unusedVariables false
set_option linter.unusedSimpArgs false
namespace Go.Proofs.Ytakcljnimggjjaa.U
open Go.RowKit Go.Lib Go.Proofs.YtakcljnimggjjaaW.PrintWords

/-- the right side that makes u an exact solution, its first j numbers -/
def rightTo (u : List Int) (k : Int) (n j : Nat) : List Int := (List.range j).map fun i => - rd (resTo u (List.replicate n 0) k n n) ((i : Nat) : Int)
theorem rightTo_snoc (u : List Int) (k : Int) (n j : Nat) : rightTo u k n (j + 1) = rightTo u k n j ++ [- rd (resTo u (List.replicate n 0) k n n) (j : Int)] := by simp [rightTo, List.range_succ]
theorem rightTo_length (u : List Int) (k : Int) (n j : Nat) : (rightTo u k n j).length = j := by simp [rightTo]
theorem zeros_rd (n j : Nat) : rd (List.replicate n 0) (j : Int) = 0 := by
  rw [rd_nat, List.getD_eq_getElem?_getD, List.getElem?_replicate]
  split <;> rfl
theorem zeros_bd (n : Nat) (B : Int) (hB : 0 ≤ B) : Bd (List.replicate n 0) B := ⟨fun j _ => by rw [zeros_rd]; omega⟩
theorem rightTo_rd (u : List Int) (k : Int) (n j : Nat) (hj : j < n) : rd (rightTo u k n n) (j : Int) = (1 + k * nearCnt n j) * rd u (j : Int) - k * (leftOf u j + rightOf u n j) := by
  rw [rd_nat, List.getD_eq_getElem?_getD, rightTo]
  simp only [List.getElem?_map, List.getElem?_range hj, Option.map_some, Option.getD_some]
  rw [resTo_rd _ _ _ _ _ _ hj, resAt, zeros_rd]
  omega
theorem res_zero (u : List Int) (k : Int) (n : Nat) (hn : u.length = n) : resTo u (rightTo u k n n) k n n = List.replicate n 0 := by
  apply List.ext_getElem
  · rw [resTo_length, List.length_replicate]
  · intro j h1 h2
    rw [resTo_length] at h1
    have := resTo_rd u (rightTo u k n n) k n n j h1
    rw [resAt, rightTo_rd u k n j h1, rd_nat, List.getD_eq_getElem?_getD, List.getElem?_eq_getElem (by rw [resTo_length]; exact h1), Option.getD_some] at this
    rw [this, List.getElem_replicate]
    omega
theorem most_zero (n m : Nat) : absMost (List.replicate n 0) m = 0 := by
  induction m with
  | zero => rfl
  | succ m ih => rw [absMost, ih, zeros_rd, bigMax_max, bigMax_max]; omega
theorem divNear_exact (b x : Int) (hb : 1 ≤ b) : divNear (b * x) b = x := by
  unfold divNear
  have e : 2 * (b * x) + b = b + 2 * b * x := by rw [Int.mul_assoc]; omega
  rw [e, Int.add_mul_ediv_left _ _ (by omega), Int.ediv_eq_zero_of_lt (by omega) (by omega)]
  omega
theorem rel_same (u : List Int) (k : Int) (n : Nat) (hn : u.length = n) (hk : 0 ≤ k) : ∀ j, j ≤ n → relTo u (rightTo u k n n) k n j = u
  | 0, _ => rfl
  | j + 1, hj => by
    rw [relTo, rel_same u k n hn hk j (by omega), relAt, rightTo_rd u k n j (by omega)]
    have h1 : 0 ≤ k * nearCnt n j := Int.mul_nonneg hk (nearCnt_range n j).1
    rw [show (1 + k * nearCnt n j) * rd u (j : Int) - k * (leftOf u j + rightOf u n j) + k * (leftOf u j + rightOf u n j) = (1 + k * nearCnt n j) * rd u (j : Int) by omega, divNear_exact _ _ (by omega), rd_nat, List.getD_eq_getElem?_getD, List.getElem?_eq_getElem (by omega), Option.getD_some, List.set_getElem_self]
theorem right_bd (u : List Int) (k : Int) (n : Nat) (hn : u.length = n) (hu : Bd u 15000) (hk : 0 ≤ k ∧ k ≤ 1000) : Bd (rightTo u k n n) 1000000000 := ⟨fun j hj => by
  rw [rightTo_length] at hj
  rw [rightTo_rd u k n j hj]
  have h0 := near_by u n j 15000 (by omega) hu (by omega) hj
  have hd := nearCnt_range n j
  have hx := hu.out j (by omega)
  have h1 := mul_range (a := k) (b := nearCnt n j) (A := 1000) (B := 2) (by omega) (by omega) (by omega) (by omega) (by omega)
  have h1' : 0 ≤ k * nearCnt n j := Int.mul_nonneg hk.1 hd.1
  have h2 := mul_range (a := 1 + k * nearCnt n j) (b := rd u (j : Int)) (A := 2001) (B := 15000) (by omega) (by omega) (by omega) (by omega) (by omega)
  have h3 := mul_range (a := k) (b := leftOf u j + rightOf u n j) (A := 1000) (B := 30000) (by omega) (by omega) (by omega) (by omega) (by omega)
  omega⟩
theorem sysOk_of' (u f : List Int) (k : Int) (n : Nat) (h1 : u.length = n) (h2 : f.length = n) (hn : 1 ≤ n ∧ n ≤ 64) (hu : Bd u 1000000000) (hf : Bd f 1000000000) (hk : 0 ≤ k ∧ k ≤ 1000) : sysOk u f k = true := by
  simp only [sysOk, Bool.and_eq_true, decide_eq_true_eq, inR_iff]
  exact ⟨⟨⟨by omega, unkOk_iff.2 ⟨by omega, hu.mem⟩⟩, unkOk_iff.2 ⟨by omega, hf.mem⟩⟩, hk⟩
theorem exact_facts (u : List Int) (k : Int) (n : Nat) (hl : u.length = n) (hn : 1 ≤ n ∧ n ≤ 16) (hu : Bd u 15000) (hk : 0 ≤ k ∧ k ≤ 1000) :
    ∃ L f, residualL u (List.replicate n 0) k = L ∧ L.length = n ∧ Bd L 4002000000000000000 ∧ rightTo u k n n = f ∧ (∀ j, rightTo u k n (j + 1) = rightTo u k n j ++ [- rd L (j : Int)]) ∧ errB u f k = 0 ∧ relL u f k = u ∧ residualL u f k = List.replicate n 0 := by
  have hf := right_bd u k n hl hu hk
  have hs := sysOk_of' u (List.replicate n 0) k n hl (by simp) (by omega) (hu.mono (by omega)) (zeros_bd n _ (by omega)) hk
  have hs2 := sysOk_of' u (rightTo u k n n) k n hl (rightTo_length _ _ _ _) (by omega) (hu.mono (by omega)) hf hk
  refine ⟨resTo u (List.replicate n 0) k n n, _, by simp [residualL, hs, hl], resTo_length _ _ _ _ _, resTo_bd u _ k n (hu.mono (by omega)) (zeros_bd n _ (by omega)) (by omega) (by simp) hk.1 hk.2, rfl, rightTo_snoc u k n, ?_, ?_, ?_⟩
  · simp only [errB, hs2, if_true, hl]
    rw [res_zero u k n hl, most_zero]
  · simp only [relL, hs2, if_true, hl]
    exact rel_same u k n hl hk.1 n (Nat.le_refl _)
  · simp only [residualL, hs2, if_true, hl]
    exact res_zero u k n hl
theorem Apart.app {W : World} {base n : Nat} {v v1 u : Value} {l : List Int} (h : Apart v u) (hu : OI W base u n l) (hg : v1.ownBlock = v.ownBlock ∨ ∃ b, v1.ownBlock = some b ∧ W.heap.size ≤ b) : Apart v1 u := by
  rcases hg with e | ⟨b, e, hb⟩
  · rcases h with h | h
    · exact .inl (e.trans h)
    · exact .inr (by rw [e]; exact h)
  · refine .inr fun e2 => ?_
    have := own_lt hu.out b (by rw [← e2, e])
    omega
set_option maxHeartbeats 8000000 in
set_option maxRecDepth 100000 in
theorem law_Solutions (A : Option Addr) (n c : Nat) (l : List Int) (w : World) (r : ReadsInt w .u8 A n l) (wf : ∀ x ∈ l, 0 ≤ x ∧ x ≤ 255) :
    Calls Try.prog 9 #[.slice A n c] w fun e w' => e = .returned (.bool true) ∧ Bw w w' := by
  have WF := hid wf
  clear wf
  by_cases hb : n ≤ 1048576
  · have t1 : decide (1048576 < (n : Int)) = false := decide_eq_false (by omega)
    have T1 := hid t1
    clear t1
    go_enter Try.func9, Try.ntmps9
    go_wp2_with fail
    refine (toBool (lawbig _ _ _ _) T1.out).mono ?_
    rintro e w1 ⟨rfl, rfl⟩
    go_wp2_with fail
    refine (DrawSystem A n c l _ r WF.out hb).mono ?_
    rintro e w1 ⟨B, C, b, d, m, u, f0, k, rfl, hu, hf, ha, hub, hfb, hm, hk, b1⟩
    obtain ⟨L, f, eL, hLl, hLb, hfe, hfs, e1, e2, e3⟩ := exact_facts u k m hu.len hm hub hk
    have ru := hu.ri
    have hlu := hid hu.len
    have HFE := hid hfe
    have HFS := hid hfs
    have HEL := hid eL
    have HLL := hid hLl
    have HLB := hid hLb
    have E1 := hid e1
    have E2 := hid e2
    have E3 := hid e3
    have HM := hid hm
    have hmake := print_make (P := Try.prog) 22 3 .i64 8 Try.underlying22 info_int (by omega) m (by omega)
    have oZ : OI ((w1.alloc (.cells #[] 3)).alloc (.cells (madeCells #[.int .i64 0] m) 3)) w1.heap.size (.slice (some ⟨w1.heap.size + 1, 0, none⟩) m m) m (List.replicate m 0) := ⟨by
      have h := own_made (w1.alloc (.cells #[] 3)) w1.heap.size 3 .i64 m (by simp) (by omega)
      rwa [show (w1.alloc (.cells #[] 3)).heap.size = w1.heap.size + 1 by simp] at h⟩
    have oF : OI (w1.alloc (.cells #[] 3)) w1.heap.size (.slice (some ⟨w1.heap.size, 0, none⟩) 0 0) 0 [] := OI.lit0 w1 w1.heap.size (Nat.le_refl _)
    have bZ : Bw w1 ((w1.alloc (.cells #[] 3)).alloc (.cells (madeCells #[.int .i64 0] m) 3)) := ((Bw.refl w1).alloc _).alloc _
    have bF : Bw (w1.alloc (.cells #[] 3)) ((w1.alloc (.cells #[] 3)).alloc (.cells (madeCells #[.int .i64 0] m) 3)) := (Bw.refl _).alloc _
    clear ha hu hf hfe hfs eL hLl hLb e1 e2 e3 hfb
    go_wp2_with fail
    have oF2 := oF.to bF
    have aZ : Apart (.slice (some ⟨w1.heap.size, 0, none⟩) 0 0) (.slice (some ⟨w1.heap.size + 1, 0, none⟩) m m) := .inr (by simp [Value.ownBlock])
    clear oF bF
    generalize (w1.alloc (.cells #[] 3)).alloc (.cells (madeCells #[.int .i64 0] m) 3) = W3 at *
    refine (impl_Residual B m b u _ m m (List.replicate m 0) k _ (ru.to bZ) oZ.ri).mono ?_
    rintro e w2 ⟨v, rfl, o, b2⟩
    rw [HEL.out, HLL.out] at o
    have aD := OI.apart oF2 o (Nat.le_refl _)
    replace o := o.base bZ.size
    replace oF2 := oF2.to b2
    replace oZ := oZ.to b2
    have b12 := bZ.trans b2
    clear b2 bZ
    obtain ⟨D, dd, rfl, _⟩ := o.reads
    have OZ := hid oZ
    have OD := hid o
    have AZ := hid aZ
    have AD := hid aD
    clear oZ o aZ aD hmake
    go_wp2
    go_loopw [6, 9] (fun v6 v9 wr => ∃ (o : List Int), o.length ≤ m ∧ v9 = .int .i64 o.length ∧ OI wr w1.heap.size v6 o.length o ∧ Hid (o = rightTo u k m o.length) ∧ Hid (OI wr w1.heap.size (.slice (some ⟨w1.heap.size + 1, 0, none⟩) m m) m (List.replicate m 0) ∧ Apart v6 (.slice (some ⟨w1.heap.size + 1, 0, none⟩) m m)) ∧ Hid (OI wr w1.heap.size (.slice D m dd) m L ∧ Apart v6 (.slice D m dd)) ∧ Bw w1 wr) (fun _ v9 _ => m - (intOf v9).toNat)
    case atStart => exact ⟨[], by simp, rfl, oF2, hid rfl, hid ⟨OZ.out, AZ.out⟩, hid ⟨OD.out, AD.out⟩, b12⟩
    case round =>
      obtain ⟨o, hj, rfl, hO, hE, hZ, hD, hB⟩ := hrel
      obtain ⟨Ao, co, rfl, _⟩ := hO.reads
      by_cases hlt : o.length < m
      · have t1 : decide ((o.length : Int) < (m : Int)) = true := decide_eq_true (by omega)
        obtain ⟨ad, rfl, hc⟩ := hD.out.1.ri.nat o.length hlt
        obtain ⟨x1, x2⟩ := HLB.out.out o.length (by rw [HLL.out]; exact hlt)
        have hnext : Hid (o ++ [-rd L (o.length : Int)] = rightTo u k m (o ++ [-rd L (o.length : Int)]).length) := hid (by rw [List.length_append, List.length_singleton, HFS.out o.length, ← hE.out])
        generalize rd L (o.length : Int) = x at *
        have i1 : wrap64 (-x) = -x := w64 (by omega) (by omega)
        have i4 : (0 : Int) ≤ (o.length : Int) := by omega
        have i5 : (o.length : Int) < (m : Int) := by omega
        go_wp2_with (at_builtin; refine print_append_num (w0 := w1) w1.heap.size rfl _ _ 22 3 .i64 8 rfl Try.underlying22 info_int (by omega) (.slice Ao o.length co) o (-x) rfl rfl hO.out hB.out hB.size (by omega) ?_; intro v1 w3 hown1 hB1 hg1 hat1)
        go_roundw
        case rel => exact ⟨o ++ [-x], by rw [List.length_append]; simp; omega, by rw [List.length_append]; go_num, OI.app hown1, hnext, hid ⟨hZ.out.1.grown hg1 hZ.out.2.symm, Apart.app hZ.out.2 hZ.out.1 hat1⟩, hid ⟨hD.out.1.grown hg1 hD.out.2.symm, Apart.app hD.out.2 hD.out.1 hat1⟩, ⟨hB1⟩⟩
        case measure => simp [intOf]; omega
      · have hlm : o.length = m := by omega
        have ho : o = f := by rw [hE.out, hlm, HFE.out]
        have RF : RI wr Ao m f := by
          have h := hO.ri
          rwa [hlm, ho] at h
        have RZ := hZ.out.1.ri
        replace ru := ru.to hB
        clear hO hE hZ hD ho hj hlt
        generalize o.length = p at *
        subst hlm
        have t1 : decide ((p : Int) < (p : Int)) = false := decide_eq_false (by omega)
        go_wp2_with fail
        refine (impl_ErrorBound _ p b u _ p co f k _ ru RF).mono ?_
        rintro e w3 ⟨rfl, b3⟩
        rw [E1.out]
        replace ru := ru.to b3
        replace RF := RF.to b3
        replace RZ := RZ.to b3
        replace hB := hB.trans b3
        clear b3
        go_wp2_with fail
        refine (impl_Relax _ p b u _ p co f k _ ru RF).mono ?_
        rintro e w4 ⟨v, rfl, o2, b4⟩
        rw [E2.out, hlu.out] at o2
        obtain ⟨D2, dd2, rfl, r2⟩ := o2.reads
        replace ru := ru.to b4
        replace RF := RF.to b4
        replace RZ := RZ.to b4
        replace hB := hB.trans b4
        clear b4 o2
        go_wp2_with fail
        refine (sameInts_yes _ p _ _ _ u _ r2 ru).mono ?_
        rintro e w5 ⟨rfl, b5⟩
        replace ru := ru.dr b5
        replace RF := RF.dr b5
        replace RZ := RZ.dr b5
        replace hB := hB.trans (Bw.drawn b5)
        clear b5 r2
        go_wp2_with fail
        refine (impl_Residual _ p b u _ p co f k _ ru RF).mono ?_
        rintro e w6 ⟨v, rfl, o2, b6⟩
        rw [E3.out, List.length_replicate] at o2
        obtain ⟨D3, dd3, rfl, r3⟩ := o2.reads
        replace RZ := RZ.to b6
        replace hB := hB.trans b6
        clear b6 o2
        go_wp2_with fail
        refine (sameInts_yes _ p _ _ _ _ _ r3 RZ).mono ?_
        rintro e w7 ⟨rfl, b7⟩
        go_wp2
        go_ret
        exact ⟨rfl, (b1.trans hB).trans (Bw.drawn b7)⟩
  · have t1 : decide (1048576 < (n : Int)) = true := decide_eq_true (by omega)
    have T1 := hid t1
    clear t1
    go_enter Try.func9, Try.ntmps9
    go_wp2_with fail
    refine (toBool (lawbig _ _ _ _) T1.out).mono ?_
    rintro e w1 ⟨rfl, rfl⟩
    go_wp2
    go_ret
    exact ⟨rfl, Bw.refl _⟩
end Go.Proofs.Ytakcljnimggjjaa.U
