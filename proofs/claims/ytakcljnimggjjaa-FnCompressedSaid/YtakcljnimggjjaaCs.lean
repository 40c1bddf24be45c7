/- CompressList, by the reference. -/
import Derived.Test.YtakcljnimggjjaaCo
set_option linter.unusedVariables false
set_option linter.unusedSimpArgs false
namespace Go.Proofs.Ytakcljnimggjjaa.U
open Go.RowKit Go.Lib Go.Proofs.YtakcljnimggjjaaW.PrintWords

set_option maxRecDepth 100000 in
set_option maxHeartbeats 8000000 in
theorem spec_CompressList (A : Option Addr) (n c : Nat) (l : List Int) (q : Int) (w : World) (r : RI w A n l) :
    Calls Try.prog 24 #[.slice A n c, .int .i64 q] w fun e w' => ∃ v, e = .returned (.tuple #[v, .bool (compress l q).2]) ∧ OI w' w.heap.size v (compress l q).1.length (compress l q).1 ∧ Bw w w' := by
  have hl := r.len
  have hm := r.max
  cases kq : inR q 1 1000000 with
  | false =>
    have hd := hid (show compress l q = ([], false) by simp [compress, kq])
    have KQ := hid kq
    generalize compress l q = D at *
    clear kq hl
    go_enter Try.func24, Try.ntmps24
    go_wp2_with fail
    refine (toBool (l01In _ _ _ _) KQ.out).mono ?_
    rintro e w' ⟨rfl, rfl⟩
    go_wp2
    go_ret2
    exact ⟨_, by rw [hd.out]; rfl, by rw [hd.out]; exact OI.lit0 w w.heap.size (Nat.le_refl _), (Bw.refl w).alloc _⟩
  | true =>
  by_cases hn : n ≤ 1000
  · obtain ⟨R, hR⟩ : ∃ R, R = comp l q n 0 0 [] := ⟨_, rfl⟩
    have hd := hid (show compress l q = compOut R by rw [compress, if_pos ⟨kq, by omega⟩, hR, hl])
    have HR := hid hR
    have KQ := hid kq
    have HL := hid hl
    have hq := hid (inR_iff.1 kq)
    generalize compress l q = D at *
    have t0 : decide (1000 < (n : Int)) = false := decide_eq_false (by omega)
    clear kq hl hR
    have o6 : OI (w.alloc (.cells #[] 3)) w.heap.size (.slice (some ⟨w.heap.size, 0, none⟩) 0 0) 0 [] := OI.lit0 w w.heap.size (Nat.le_refl _)
    have b1 : Bw w (w.alloc (.cells #[] 3)) := (Bw.refl w).alloc _
    go_enter Try.func24, Try.ntmps24
    go_wp2_with fail
    refine (toBool (l01In _ _ _ _) KQ.out).mono ?_
    rintro e w' ⟨rfl, rfl⟩
    go_wp2
    generalize w.alloc (.cells #[] 3) = W0 at *
    go_loopw [6, 7, 8] (fun v6 v7 v23 wr => ∃ (j : Nat) (x : Int) (o : List Int), j ≤ n ∧ v23 = .int .i64 j ∧ v7 = .int .i64 x ∧ OI wr w.heap.size v6 o.length o ∧ Bw w wr ∧ Hid ((0 ≤ x ∧ x ≤ 10000000) ∧ CInv o j) ∧ Hid (comp l q (n - j) j x o = R)) (fun _ _ v23 _ => n - (intOf v23).toNat)
    case atStart => exact ⟨0, 0, [], by omega, rfl, rfl, o6, b1, hid ⟨by omega, CInv.start⟩, hid HR.out.symm⟩
    case round =>
      obtain ⟨j, x, o, hj, rfl, rfl, hO, hB, hX, hS⟩ := hrel
      obtain ⟨Ao, co, rfl, _⟩ := hO.reads
      by_cases hlt : j < n
      · have t1 : decide ((j : Int) < (n : Int)) = true := decide_eq_true (by omega)
        obtain ⟨p, hp⟩ : ∃ p, n - j = p + 1 := ⟨n - j - 1, by omega⟩
        have hS' := hS.out
        rw [hp, comp] at hS'
        obtain ⟨ad, rfl, hc0⟩ := (r.to hB).nat j hlt
        cases k1 : inR (rd l (j : Int)) 0 10000000 with
        | false =>
          have hno : R = none := by rw [← hS', if_neg (by rw [k1]; decide)]
          have HD2 : Hid (D = ([], false)) := hid (by rw [hd.out, hno]; rfl)
          have K1 := hid k1
          clear hS' k1 hno
          go_wp2_with fail
          refine (toBool (l01In _ _ _ _) K1.out).mono ?_
          rintro e w' ⟨rfl, rfl⟩
          go_wp2
          go_ret2
          exact ⟨_, by rw [HD2.out]; rfl, by rw [HD2.out]; exact (OI.lit0 wr wr.heap.size (Nat.le_refl _)).base hB.size, hB.alloc _⟩
        | true =>
          have hz := qz_range (rd l (j : Int)) q (inR_iff.1 k1) hq.out.1
          rw [if_pos k1] at hS'
          have K1 := hid k1
          clear k1
          obtain ⟨⟨hx1, hx2⟩, hI⟩ := hX.out
          have HI := hid hI
          have he1 := hI.even
          have he2 := hI.len
          go_wp2_with fail
          refine (toBool (l01In _ _ _ _) K1.out).mono ?_
          rintro e w' ⟨rfl, rfl⟩
          go_wp2_with fail
          refine (spec_Quantize _ _ _ K1.out KQ.out).mono ?_
          rintro e w' ⟨rfl, rfl⟩
          clear K1
          generalize divNear (rd l (j : Int)) q = y at *
          generalize rd l (j : Int) = xx at *
          have hlo : o.length ≤ 2000 := by omega
          have i1 : wrap64 (y - x) = y - x := w64 (by omega) (by omega)
          have i3 : wrap64 (x + (y - x)) = y := by rw [w64 (by omega) (by omega)]; omega
          by_cases h0 : 0 < o.length
          · obtain ⟨g, hg, hgb⟩ := oi_form hO h0
            subst hg
            obtain ⟨ca, fa⟩ := oi_cell hO (o.length - 1) (by omega)
            obtain ⟨cb, fb⟩ := oi_cell hO (o.length - 2) (by omega)
            obtain ⟨hb1, hb2⟩ := hI.bd (o.length - 2) (by omega)
            have e1 : ((o.length : Int) - 1).toNat = o.length - 1 := by omega
            have e2 : ((o.length : Int) - 2).toNat = o.length - 2 := by omega
            have t2 : decide (0 < (o.length : Int)) = true := decide_eq_true (by omega)
            have t3 : decide (0 < o.length) = true := decide_eq_true h0
            have n1 : (0 : Int) ≤ (o.length : Int) - 1 := by omega
            have n2 : (o.length : Int) - 1 < (o.length : Int) := by omega
            have n3 : (0 : Int) ≤ (o.length : Int) - 2 := by omega
            have n4 : (o.length : Int) - 2 < (o.length : Int) := by omega
            by_cases hz2 : rd o ((o.length - 1 : Nat) : Int) = y - x
            · have hnext : Hid (comp l q (n - (j + 1)) (j + 1) y (o.set (o.length - 2) (rd o ((o.length - 2 : Nat) : Int) + 1)) = R) := hid (by rw [← compAdd_set h0 hz2, show n - (j + 1) = p by omega]; exact hS')
              have hIn := hid hI.set
              have tz : (rd o ((o.length - 1 : Nat) : Int) == y - x) = true := by rw [hz2]; simp
              clear hz2 hS' hI
              generalize rd o ((o.length - 1 : Nat) : Int) = z at *
              generalize rd o ((o.length - 2 : Nat) : Int) = cc at *
              have i2 : wrap64 (cc + 1) = cc + 1 := w64 (by omega) (by omega)
              have HZ := hid hz
              clear hb1 hb2 hz
              go_wp2
              go_roundw
              case rel => exact ⟨j + 1, y, o.set (o.length - 2) (cc + 1), by omega, by go_num, by go_num, by rw [List.length_set]; exact oi_store hO (o.length - 2) (cc + 1), bw_store hB hgb _ _, hid ⟨HZ.out, hIn.out⟩, hnext⟩
              case measure => simp [intOf]; omega
            · have hnext : Hid (comp l q (n - (j + 1)) (j + 1) y (o ++ [1, y - x]) = R) := hid (by rw [← compAdd_app (fun h => hz2 h.2), show n - (j + 1) = p by omega]; exact hS')
              have hIn := hid (hI.app (y - x) (by omega))
              have tz : (rd o ((o.length - 1 : Nat) : Int) == y - x) = false := beq_eq_false_iff_ne.2 hz2
              clear hz2 hS' hI cb fb
              generalize rd o ((o.length - 1 : Nat) : Int) = z at *
              have HZ := hid hz
              clear hb1 hb2 hz
              go_wp2_with (at_builtin; refine print_append_row (w0 := w) w.heap.size rfl _ _ 22 3 .i64 8 rfl Try.underlying22 info_int (by omega) (.slice (some ⟨g, 0, none⟩) o.length co) o [1, y - x] (some ⟨wr.heap.size, 0, none⟩) 2 2 rfl rfl (hO.to ((Bw.refl wr).alloc _)).out (lit2 wr 1 (y - x)).out (hB.alloc _).out (by have := hB.size; simp; omega) (by omega) ?_; intro v1 w3 hown1 hB1 hg1 _)
              go_wp2
              go_roundw
              case rel => exact ⟨j + 1, y, o ++ [1, y - x], by omega, by go_num, by go_num, ⟨hown1⟩, ⟨hB1⟩, hid ⟨HZ.out, hIn.out⟩, hnext⟩
              case measure => simp [intOf]; omega
          · have t2 : decide (0 < (o.length : Int)) = false := decide_eq_false (by omega)
            have t3 : decide (0 < o.length) = false := decide_eq_false h0
            have hnext : Hid (comp l q (n - (j + 1)) (j + 1) y (o ++ [1, y - x]) = R) := hid (by rw [← compAdd_app (fun h => h0 h.1), show n - (j + 1) = p by omega]; exact hS')
            have hIn := hid (hI.app (y - x) (by omega))
            have HZ := hid hz
            clear hS' hI hz
            go_wp2_with (at_builtin; refine print_append_row (w0 := w) w.heap.size rfl _ _ 22 3 .i64 8 rfl Try.underlying22 info_int (by omega) (.slice Ao o.length co) o [1, y - x] (some ⟨wr.heap.size, 0, none⟩) 2 2 rfl rfl (hO.to ((Bw.refl wr).alloc _)).out (lit2 wr 1 (y - x)).out (hB.alloc _).out (by have := hB.size; simp; omega) (by omega) ?_; intro v1 w3 hown1 hB1 hg1 _)
            go_wp2
            go_roundw
            case rel => exact ⟨j + 1, y, o ++ [1, y - x], by omega, by go_num, by go_num, ⟨hown1⟩, ⟨hB1⟩, hid ⟨HZ.out, hIn.out⟩, hnext⟩
            case measure => simp [intOf]; omega
      · obtain rfl : j = n := by omega
        have t1 : decide ((j : Int) < (j : Int)) = false := decide_eq_false (by omega)
        have hS' := hS.out
        rw [Nat.sub_self, comp] at hS'
        have HD2 : Hid (D = (o, true)) := hid (by rw [hd.out, ← hS']; rfl)
        clear hS'
        go_wp2
        go_ret2
        exact ⟨_, by rw [HD2.out]; rfl, by rw [HD2.out]; exact hO, hB⟩
  · have hd := hid (show compress l q = ([], false) by rw [compress, if_neg]; rintro ⟨_, h⟩; omega)
    have KQ := hid kq
    generalize compress l q = D at *
    have t0 : decide (1000 < (n : Int)) = true := decide_eq_true (by omega)
    clear kq hl
    go_enter Try.func24, Try.ntmps24
    go_wp2_with fail
    refine (toBool (l01In _ _ _ _) KQ.out).mono ?_
    rintro e w' ⟨rfl, rfl⟩
    go_wp2
    go_ret2
    exact ⟨_, by rw [hd.out]; rfl, by rw [hd.out]; exact OI.lit0 w w.heap.size (Nat.le_refl _), (Bw.refl w).alloc _⟩
theorem compAdd_len (out : List Int) (d : Int) : (compAdd out d).length ≤ out.length + 2 := by
  unfold compAdd
  split
  · rw [List.length_set]; omega
  · simp
theorem comp_len (l : List Int) (q : Int) : ∀ (r j : Nat) (x : Int) (out o : List Int), comp l q r j x out = some o → o.length ≤ out.length + 2 * r
  | 0, j, x, out, o, h => by
    rw [comp] at h
    injection h with h
    subst h
    omega
  | r + 1, j, x, out, o, h => by
    rw [comp] at h
    split at h
    · have := comp_len l q r _ _ _ o h
      have h2 := compAdd_len out (divNear (rd l (j : Int)) q - x)
      omega
    · cases h
theorem compress_len (l : List Int) (q : Int) : (compress l q).1.length ≤ 1048576 := by
  unfold compress
  split
  · rename_i h
    cases hc : comp l q l.length 0 0 [] with
    | none => simp [compOut]
    | some o =>
      have := comp_len l q _ _ _ _ o hc
      simp only [List.length_nil] at this
      simp only [compOut]
      omega
  · simp
end Go.Proofs.Ytakcljnimggjjaa.U
