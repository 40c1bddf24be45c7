
/- A sweep over the unknowns, by the reference. -/
import Derived.Test.YtpnciejalcdgeaaRx
set_option linter.unusedVariables false
set_option linter.unusedSimpArgs false
namespace Go.Proofs.Ytpnciejalcdgeaa.U
open Go.RowKit Go.Lib Go.Proofs.YtpnciejalcdgeaaW.PrintWords

theorem OI.ap0 {w w1 : World} {base n : Nat} {v : Value} {l : List Int} (hl : l.length = n) (h : w1.ownsRow base 3 1 v ([] ++ l).length (nums .i64 ([] ++ l))) : OI w1 base v n l := ⟨by simpa [hl] using h⟩
set_option maxRecDepth 100000 in
set_option maxHeartbeats 8000000 in
theorem spec_Relax (A : Option Addr) (n c : Nat) (u : List Int) (B : Option Addr) (m d : Nat) (f : List Int) (k : Int) (w : World) (r : RI w A n u) (q : RI w B m f) :
    Calls Try.prog 39 #[.slice A n c, .slice B m d, .int .i64 k] w fun e w' => ∃ v, e = .returned v ∧ OI w' w.heap.size v (relL u f k).length (relL u f k) ∧ Bw w w' := by
  have hl := r.len
  have hl2 := q.len
  cases hs : sysOk u f k with
  | false =>
    rw [show relL u f k = [] by simp [relL, hs]]
    have HS := hid hs; clear hs hl hl2
    go_enter Try.func39, Try.ntmps39
    go_wp2_with fail
    refine (spec_SystemOk A n c u B m d f k _ r q).mono ?_
    rintro e w1 ⟨rfl, d1⟩
    have b := Bw.drawn d1
    clear d1
    rw [HS.out]
    go_wp2
    go_ret
    exact ⟨_, rfl, (OI.lit0 w1 w1.heap.size (Nat.le_refl _)).base b.size, b.alloc _⟩
  | true =>
    obtain ⟨f1, f2, hu, hf, hk0, hk1⟩ := sysOk_facts hs
    rw [show relL u f k = relTo u f k n n by simp [relL, hs, hl], relTo_length, hl]
    have hn : n ≤ 64 := by omega
    have hnm : n = m := by omega
    obtain rfl := hnm
    have HB := hid (fun j (hj : j ≤ n) => relTo_bd u f k n 1000000000 (by omega) hu hf (by omega) (by omega) hk0 j hj)
    have HL := hid (relTo_length u f k n)
    have HU := hid hl
    have HF := hid hl2
    have HFB := hid hf
    have HS := hid hs
    clear hl hl2 hu hf hs f1 f2
    obtain ⟨R, HR⟩ : ∃ R, Hid (R = relTo u f k n n) := ⟨_, hid rfl⟩
    rw [← HR.out]
    go_enter Try.func39, Try.ntmps39
    go_wp2_with fail
    refine (spec_SystemOk A n c u B n d f k _ r q).mono ?_
    rintro e w1 ⟨rfl, d1⟩
    have b := Bw.drawn d1
    clear d1
    rw [HS.out]
    have o6 : OI (w1.alloc (.cells #[] 3)) w1.heap.size (.slice (some ⟨w1.heap.size, 0, none⟩) 0 0) 0 [] := OI.lit0 w1 w1.heap.size (Nat.le_refl _)
    have b6 : Bw w1 (w1.alloc (.cells #[] 3)) := (Bw.refl w1).alloc _
    have r1 := (r.to b).to b6
    go_wp2_with (at_builtin; refine print_append_row (w0 := w1) w1.heap.size rfl _ _ 24 3 .i64 8 rfl Try.underlying24 info_int (by omega) (.slice (some ⟨w1.heap.size, 0, none⟩) 0 0) [] u A n c rfl rfl o6.out r1.out b6.out b6.size (by simp; omega) ?_; intro v1 w3 hown1 hB1 hg1 _)
    have o : OI w3 w.heap.size v1 n u := (OI.ap0 (w := w3) HU.out hown1).base b.size
    replace b := b.trans ⟨hB1⟩
    clear o6 b6 r1 hown1 hB1 hg1
    obtain ⟨Ao, co, rfl, _⟩ := o.reads
    go_loopw [8] (fun v15 wr => ∃ j : Nat, j ≤ n ∧ v15 = .int .i64 j ∧ Hid (OI wr w.heap.size (.slice Ao n co) n (relTo u f k n j)) ∧ Hid (Bw w wr)) (fun v15 _ => n - (intOf v15).toNat)
    case atStart => exact ⟨0, by omega, rfl, hid o, hid b⟩
    case round =>
      obtain ⟨j, hj, rfl, hO, hB⟩ := hrel
      by_cases hlt : j < n
      · have t1 : decide ((j : Int) < (n : Int)) = true := decide_eq_true (by omega)
        have hbd := HB.out j (by omega)
        have hs := near_by (relTo u f k n j) n j 1000000000 (by omega) hbd (by rw [HL.out, HU.out]; exact Nat.le_refl _) hlt
        have hd := nearCnt_range n j
        have hy := HFB.out.out j (by rw [HF.out]; exact hlt)
        have hnext := hid (show relTo u f k n (j + 1) = (relTo u f k n j).set j (divNear (rd f (j : Int) + k * (leftOf (relTo u f k n j) j + rightOf (relTo u f k n j) n j)) (1 + k * nearCnt n j)) from rfl)
        obtain ⟨ks, kd, hway⟩ := relWay k (nearCnt n j) (rd f (j : Int)) (leftOf (relTo u f k n j) j + rightOf (relTo u f k n j) n j) hk0 hk1 hd.1 hd.2 hy.1 hy.2 (by omega) (by omega)
        go_wp2_with fail
        refine (l20Near Ao n co (relTo u f k n j) j _ hO.out.ri hlt (hbd.mono (by omega)) (by omega)).mono ?_
        rintro e w2 ⟨rfl, rfl⟩
        have hO2 := hO.out
        have hB2 := hB.out
        obtain ⟨g, hg, hgb, _⟩ := hO2.form (by omega)
        subst hg
        obtain ⟨⟨x0, ho1⟩, ho2⟩ := hO2.at j hlt
        obtain ⟨ad, rfl, hc⟩ := (q.to hB2).nat j hlt
        have HO2 := hid hO2
        have HB2 := hid hB2
        clear hO2 hB2 hs hd hy hbd
        generalize rd f (j : Int) + k * (leftOf (relTo u f k n j) j + rightOf (relTo u f k n j) n j) = Y at *
        generalize rd f (j : Int) = y at *
        generalize leftOf (relTo u f k n j) j + rightOf (relTo u f k n j) n j = s at *
        generalize 1 + k * nearCnt n j = t at *
        generalize nearCnt n j = dd at *
        obtain ⟨e1, e2, e3, e4, e5, e6, e7, e8⟩ := hway
        go_wp2_with fail
        refine (spec_DivNear _ _ _ e5 e6 e7 e8).mono ?_
        rintro e w3 ⟨rfl, rfl⟩
        generalize divNear Y t = z at *
        go_wp2
        go_roundw
        case rel => exact ⟨j + 1, by omega, by go_num, hid (by rw [hnext.out]; exact HO2.out.store j z), hid (HB2.out.store hgb j _)⟩
        case measure => simp [intOf]; omega
      · obtain rfl : j = n := by omega
        have t1 : decide ((j : Int) < (j : Int)) = false := decide_eq_false (by omega)
        go_wp2
        go_ret
        exact ⟨_, rfl, by rw [HR.out]; exact hO.out, hB.out⟩
end Go.Proofs.Ytpnciejalcdgeaa.U
