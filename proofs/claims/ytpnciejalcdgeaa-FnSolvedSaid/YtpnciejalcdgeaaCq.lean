
/- The coarse part of a residual, by the program and by the reference. -/
import Derived.Test.YtpnciejalcdgeaaCr
import Derived.Test.YtpnciejalcdgeaaSy
import Derived.Test.YtpnciejalcdgeaaRe
import Derived.Test.YtpnciejalcdgeaaWMore
set_option linter.unusedVariables false
set_option linter.unusedSimpArgs false
namespace Go.Proofs.Ytpnciejalcdgeaa.U
open Go.RowKit Go.Lib Go.Proofs.YtpnciejalcdgeaaW.PrintWords

attribute [local go_sem] go_max2 go_min2
open Go.Proofs.YtpnciejalcdgeaaW.PrintLast Go.Proofs.YtpnciejalcdgeaaW.PrintMore
theorem OI.one {W : World} {base n : Nat} {l : List Int} {x : Int} {v1 : Value} (h : W.ownsRow base 3 1 v1 (n + 1) (nums .i64 l ++ [.int .i64 x])) : OI W base v1 (n + 1) (l ++ [x]) := ⟨by rw [nums_append]; exact h⟩
/-- the first k means -/
def coTo (l : List Int) (n k : Nat) : List Int := (List.range k).map (meanAt l n)
/-- the coarse part -/
def coarseL (l : List Int) : List Int := if unkOk l 10000000000000 = true then coTo l l.length ((l.length + 1) / 2) else []
theorem coTo_length (l : List Int) (n k : Nat) : (coTo l n k).length = k := by simp [coTo]
theorem coTo_snoc (l : List Int) (n k : Nat) : coTo l n (k + 1) = coTo l n k ++ [meanAt l n k] := by simp [coTo, List.range_succ]
theorem meansL_to (l : List Int) (n : Nat) : ∀ k, 2 * k ≤ n + 1 → meansL l n (ckTo n k) = coTo l n k
  | 0, _ => rfl
  | k + 1, h => by rw [ckTo_succ (by omega), meansL_concat, meansL_to l n k (by omega), coTo_snoc]
theorem coarseL_len (l : List Int) : (coarseL l).length ≤ 1048576 := by
  unfold coarseL
  split
  · rename_i h
    have := (unkOk_iff.1 h).1
    rw [coTo_length]
    omega
  · simp
theorem impl_CoarsePart (A : Option Addr) (n c : Nat) (l : List Int) (w : World) (r : RI w A n l) (hcap : n ≤ c) :
    Calls Try.prog 12 #[.slice A n c] w fun e w' => ∃ v, e = .returned v ∧ OI w' w.heap.size v (coarseL l).length (coarseL l) ∧ Bw w w' := by
  have hl := r.len
  cases hs : unkOk l 10000000000000 with
  | false =>
    rw [show coarseL l = [] by simp [coarseL, hs]]
    have HS := hid hs; clear hs hl
    go_enter Try.func12, Try.ntmps12
    go_wp2_with fail
    refine (impl_areUnknowns A n c l 10000000000000 _ r (by omega) (by omega)).mono ?_
    rintro e w1 ⟨rfl, b⟩
    rw [HS.out]
    go_wp2
    go_ret
    exact ⟨_, rfl, OI.nil _ _, b⟩
  | true =>
    obtain ⟨h1, h2⟩ := unkOk_iff.1 hs
    rw [show coarseL l = coTo l n ((n + 1) / 2) by simp [coarseL, hs, hl], coTo_length, ← meansL_to l n _ (by omega)]
    rw [hl] at h1
    obtain ⟨ad, rfl, _⟩ := r.nat 0 (by omega)
    have HB := hid (fun (i : Nat) (hi : i < n) => (show -4100000000000000000 ≤ rd l (i : Int) ∧ rd l (i : Int) ≤ 4100000000000000000 by
      have hm : rd l (i : Int) ∈ l := by
        rw [rd_nat, List.getD_eq_getElem?_getD, List.getElem?_eq_getElem (by omega)]
        exact List.getElem_mem _
      have := h2 _ hm
      omega))
    have HS := hid hs; clear hs hl h2
    go_enter Try.func12, Try.ntmps12
    go_wp2_with fail
    refine (impl_areUnknowns _ n c l 10000000000000 _ r (by omega) (by omega)).mono ?_
    rintro e w1 ⟨rfl, b⟩
    rw [HS.out]
    go_wp2_with fail
    refine (impl_coarse ad n c l _ (r.to b) h1 hcap HB.out).mono ?_
    rintro e w2 ⟨v, rfl, o, b2⟩
    go_wp2
    go_ret
    exact ⟨_, rfl, o.base b.size, b.trans b2⟩
theorem unkOk_no (l : List Int) (j : Nat) (hj : j < l.length) (h : inR (rd l (j : Int)) (-10000000000000) 10000000000000 = false) : unkOk l 10000000000000 = false := by
  have := not_all_at l (fun x => inR x (-10000000000000) 10000000000000) j hj h
  simp [unkOk, this]
theorem unkOk_yes (l : List Int) (n : Nat) (hl : l.length = n) (h1 : inR n 1 64 = true) (h : ∀ j, j < n → inR (rd l (j : Int)) (-10000000000000) 10000000000000 = true) : unkOk l 10000000000000 = true := by
  simp only [unkOk, hl, h1, Bool.true_and]
  exact all_at l _ n hl h
theorem two_div (n k : Nat) (h1 : 2 * k ≤ n + 1) (h2 : ¬ 2 * k < n) : (n + 1) / 2 = k := by omega
set_option maxRecDepth 100000 in
set_option maxHeartbeats 8000000 in
theorem spec_CoarsePart (A : Option Addr) (n c : Nat) (l : List Int) (w : World) (r : RI w A n l) (hcap : n ≤ c) :
    Calls Try.prog 40 #[.slice A n c] w fun e w' => ∃ v, e = .returned v ∧ OI w' w.heap.size v (coarseL l).length (coarseL l) ∧ Bw w w' := by
  have hm := r.max
  have hl := r.len
  have o0 := OI.lit0 w w.heap.size (Nat.le_refl _)
  have b0 : Bw w (w.alloc (.cells #[] 3)) := (Bw.refl w).alloc _
  cases h1 : inR (n : Int) 1 64 with
  | false =>
    rw [show coarseL l = [] by simp [coarseL, unkOk, hl, h1]]
    have H1 := hid h1
    clear hl h1
    go_enter Try.func40, Try.ntmps40
    go_wp2_with fail
    refine (l01In _ _ _ _).mono ?_
    rintro e w' ⟨rfl, rfl⟩
    rw [H1.out]
    go_wp2
    go_ret
    exact ⟨_, rfl, o0, b0⟩
  | true =>
    have hn : n ≤ 64 := by have := inR_iff.1 h1; omega
    have H1 := hid h1
    have HL := hid hl
    clear hl h1
    obtain ⟨R, HR⟩ : ∃ R, Hid (R = coarseL l) := ⟨_, hid rfl⟩
    rw [← HR.out]
    obtain ⟨n2, HN2⟩ : ∃ n2, Hid (n2 = R.length) := ⟨_, hid rfl⟩
    rw [← HN2.out]
    go_enter Try.func40, Try.ntmps40
    go_wp2_with fail
    refine (l01In _ _ _ _).mono ?_
    rintro e w' ⟨rfl, rfl⟩
    rw [H1.out]
    go_wp2
    go_loopw [4] (fun i wr => ∃ j : Nat, j ≤ n ∧ i = .int .i64 j ∧ Hid (∀ p, p < j → inR (rd l (p : Int)) (-10000000000000) 10000000000000 = true) ∧ Hid (Drawn0 (w.alloc (.cells #[] 3)) wr)) (fun i _ => n - (intOf i).toNat)
    case atStart => exact ⟨0, by omega, rfl, hid (fun j hj => by omega), hid (Drawn0.refl _)⟩
    case round =>
      obtain ⟨j, hj, rfl, hE, hD⟩ := hrel
      by_cases hlt : j < n
      · obtain ⟨ad, rfl, hc⟩ := ((r.to b0).dr hD.out).nat j hlt
        cases hu : inR (rd l (j : Int)) (-10000000000000) 10000000000000 with
        | false =>
          have HU := hid hu; clear hu
          go_wp2_with fail
          refine (l01In _ _ _ _).mono ?_
          rintro e w' ⟨rfl, rfl⟩
          rw [HU.out]
          go_wp2
          go_ret
          have e0 : R = [] := by rw [HR.out]; simp [coarseL, unkOk_no l j (by rw [HL.out]; exact hlt) HU.out]
          have e1 : n2 = 0 := by rw [HN2.out, e0]; rfl
          have bb := b0.trans (Bw.drawn hD.out)
          rw [e0, e1]
          exact ⟨_, rfl, OI.lit0 _ _ bb.size, bb.alloc _⟩
        | true =>
          have HU := hid hu; clear hu
          go_wp2_with fail
          refine (l01In _ _ _ _).mono ?_
          rintro e w' ⟨rfl, rfl⟩
          rw [HU.out]
          go_wp2
          go_roundw
          case rel => exact ⟨j + 1, by omega, by go_num, hid (fun p hp => (Nat.lt_or_ge p j).elim (fun h => hE.out p h) (fun h => by obtain rfl : p = j := (by omega); exact HU.out)), hD⟩
          case measure => simp [intOf]; omega
      · obtain rfl : j = n := by omega
        have eR : Hid (R = coTo l j ((j + 1) / 2)) := hid (by rw [HR.out]; simp [coarseL, unkOk_yes l j HL.out H1.out hE.out, HL.out])
        have oo := o0.to (Bw.drawn hD.out)
        have bb := b0.trans (Bw.drawn hD.out)
        have HBD := hid (fun (p : Nat) (hp : p < j) => inR_iff.1 (hE.out p hp))
        have HN := hid (coTo_length l j)
        clear hE
        go_wp2
        go_loopw [3, 5] (fun v i wr => ∃ k : Nat, 2 * k ≤ j + 1 ∧ i = .int .i64 (2 * k : Nat) ∧ OI wr w.heap.size v (coTo l j k).length (coTo l j k) ∧ Bw w wr) (fun _ i _ => 70 - (intOf i).toNat)
        case atStart => exact ⟨0, by omega, rfl, oo, bb⟩
        case round =>
          obtain ⟨k, hk, rfl, hO, hB⟩ := hrel
          have HS := hid (coTo_snoc l j k)
          have HK := hid hk
          obtain ⟨i, hi⟩ : ∃ i, i = 2 * k := ⟨_, rfl⟩
          rw [← hi]
          rw [← hi] at hk
          have HI := hid hi
          clear hi
          have hbase := hB.size
          by_cases hlt : i < j
          · have t1 : decide ((i : Int) < (j : Int)) = true := decide_eq_true (by omega)
            obtain ⟨ad, rfl, hc⟩ := (r.to hB).nat i hlt
            have hx := HBD.out i hlt
            by_cases hlast : i + 1 = j
            · have t2 : ((i : Int) + 1 == (j : Int)) = true := by rw [beq_iff_eq]; omega
              have hm : Hid (meanAt l j k = rd l (i : Int)) := hid (by have := HI.out; unfold meanAt; rw [if_neg (by omega), this])
              generalize rd l (i : Int) = x at *
              clear hx
              go_wp2_with (at_builtin; refine print_append_num (w0 := w) w.heap.size rfl _ _ 24 3 .i64 8 rfl Try.underlying24 info_int (by omega) u3 (coTo l j k) x rfl rfl hO.out hB.out hB.size (by rw [HN.out]; have := HK.out; omega) ?_; intro v1 w3 hown1 hB1 hg1 _)
              go_roundw
              case rel => exact ⟨k + 1, by have := HI.out; omega, by have := HI.out; go_num, by rw [HS.out, hm.out]; exact ⟨hown1⟩, ⟨hB1⟩⟩
              case measure => have := HI.out; simp [intOf]; omega
            · have t2 : ((i : Int) + 1 == (j : Int)) = false := by rw [beq_eq_false_iff_ne]; omega
              have hlt2 : i + 1 < j := by omega
              obtain ⟨_, ea, hcy⟩ := (r.to hB).nat (i + 1) hlt2
              obtain rfl := Option.some.inj ea
              rw [add_pos _ _ (by omega)] at hcy
              have hy := HBD.out (i + 1) hlt2
              have hm : Hid (meanAt l j k = (rd l (i : Int) + rd l ((i + 1 : Nat) : Int)) / 2) := hid (by have := HI.out; unfold meanAt; rw [if_pos (by omega), this])
              generalize rd l (i : Int) = x at *
              generalize rd l ((i + 1 : Nat) : Int) = y at *
              have e1 : wrap64 (x + y) = x + y := w64 (by omega) (by omega)
              have e2 : wrap64 ((i : Int) + 1) = (i : Int) + 1 := w64 (by omega) (by omega)
              have i1 : (i : Int) + 1 < (j : Int) := by omega
              have i0 : (0 : Int) ≤ (i : Int) + 1 := by omega
              have i2 : (0 : Int) ≤ (i : Int) := by omega
              have i3 : (i : Int) < (j : Int) := by omega
              have hs0 : -9223372036854775808 ≤ x + y := by omega
              have hs1 : x + y ≤ 9223372036854775807 := by omega
              obtain ⟨s, hs⟩ : ∃ s, x + y = s := ⟨_, rfl⟩
              rw [hs] at hm hs0 hs1
              replace e1 := e1.trans hs
              clear hs
              obtain ⟨z, hz⟩ : ∃ z, s / 2 = z := ⟨_, rfl⟩
              rw [hz] at hm
              have HZ := hid hz
              clear hx hy hz ea
              go_wp2
              refine start_ (n := 15) (S := fun w' => w'.cell? (ad.add i) = some (.int .i64 x) ∧ w'.cell? ⟨ad.block, ad.off + (i + 1), none⟩ = some (.int .i64 y)) (ds := [11, 12, 13, 14]) #[false, false, false, false, false, false, false, false, false, false, false, false, false, false, false] (by kernel_rfl) rfl rfl ⟨hc, hcy⟩ (fun hHeld => ?_)
              refine pure_ (i := 0) (N := (some 43)) (v := ?_) (a' := ?_) #[true, false, false, false, false, false, false, false, false, false, false, false, false, false, false] rfl rfl (by kernel_rfl) (fun _ _ _ h => h) (Or.inl ⟨by rfl, ?_⟩) ?_ ?_
              rotate_left
              · intro w'
                go_simp
                with_reducible rfl
              rotate_left
              · simp only [Act.put, List.setIfInBounds_toArray, List.set_cons_zero, List.set_cons_succ, i64_w, i32_w]
                rfl
              refine pure_ (i := 1) (N := (some 44)) (v := ?_) (a' := ?_) #[true, true, false, false, false, false, false, false, false, false, false, false, false, false, false] rfl rfl (by kernel_rfl) (fun _ _ _ h => h) (Or.inl ⟨by rfl, ?_⟩) ?_ ?_
              rotate_left
              · intro w'
                go_simp
                with_reducible rfl
              rotate_left
              · simp only [Act.put, List.setIfInBounds_toArray, List.set_cons_zero, List.set_cons_succ, i64_w, i32_w]
                rfl
              refine pure_ (i := 2) (N := (some 45)) (v := ?_) (a' := ?_) #[true, true, true, false, false, false, false, false, false, false, false, false, false, false, false] rfl rfl (by kernel_rfl) (fun _ _ _ h => h) (Or.inl ⟨by rfl, ?_⟩) ?_ ?_
              rotate_left
              · intro w'
                go_simp
                with_reducible rfl
              rotate_left
              · simp only [Act.put, List.setIfInBounds_toArray, List.set_cons_zero, List.set_cons_succ, i64_w, i32_w]
                rfl
              refine pure_ (i := 3) (N := (some 46)) (v := ?_) (a' := ?_) #[true, true, true, true, false, false, false, false, false, false, false, false, false, false, false] rfl rfl (by kernel_rfl) (fun _ _ _ h => h) (Or.inl ⟨by rfl, ?_⟩) ?_ ?_
              rotate_left
              · intro w'
                go_simp
                with_reducible rfl
              rotate_left
              · simp only [Act.put, List.setIfInBounds_toArray, List.set_cons_zero, List.set_cons_succ, i64_w, i32_w]
                rfl
              refine take_ (i := 4) (N := (some 47)) (v := ?_) (a' := ?_) #[true, true, true, true, true, false, false, false, false, false, false, false, false, false, false] rfl rfl (by kernel_rfl) (fun _ _ _ h => h) (Or.inl ⟨by rfl, ?_⟩) hHeld ?_ ?_
              rotate_left
              · rintro w' ⟨s0, s1⟩
                go_simp
                with_reducible rfl
              rotate_left
              · simp only [Act.put, List.setIfInBounds_toArray, List.set_cons_zero, List.set_cons_succ, i64_w, i32_w]
                rfl
              refine pure_ (i := 5) (N := (some 48)) (v := ?_) (a' := ?_) #[true, true, true, true, true, true, false, false, false, false, false, false, false, false, false] rfl rfl (by kernel_rfl) (fun _ _ _ h => h) (Or.inl ⟨by rfl, ?_⟩) ?_ ?_
              rotate_left
              · intro w'
                go_simp
                with_reducible rfl
              rotate_left
              · simp only [Act.put, List.setIfInBounds_toArray, List.set_cons_zero, List.set_cons_succ, i64_w, i32_w]
                rfl
              refine pure_ (i := 6) (N := (some 49)) (v := ?_) (a' := ?_) #[true, true, true, true, true, true, true, false, false, false, false, false, false, false, false] rfl rfl (by kernel_rfl) (fun _ _ _ h => h) (Or.inl ⟨by rfl, ?_⟩) ?_ ?_
              rotate_left
              · intro w'
                go_simp
                with_reducible rfl
              rotate_left
              · simp only [Act.put, List.setIfInBounds_toArray, List.set_cons_zero, List.set_cons_succ, i64_w, i32_w]
                rfl
              refine pure_ (i := 7) (N := (some 50)) (v := ?_) (a' := ?_) #[true, true, true, true, true, true, true, true, false, false, false, false, false, false, false] rfl rfl (by kernel_rfl) (fun _ _ _ h => h) (Or.inl ⟨by rfl, ?_⟩) ?_ ?_
              rotate_left
              · intro w'
                go_simp
                with_reducible rfl
              rotate_left
              · simp only [Act.put, List.setIfInBounds_toArray, List.set_cons_zero, List.set_cons_succ, i64_w, i32_w]
                rfl
              refine pure_ (i := 8) (N := (some 51)) (v := ?_) (a' := ?_) #[true, true, true, true, true, true, true, true, true, false, false, false, false, false, false] rfl rfl (by kernel_rfl) (fun _ _ _ h => h) (Or.inl ⟨by rfl, ?_⟩) ?_ ?_
              rotate_left
              · intro w'
                go_simp
                with_reducible rfl
              rotate_left
              · simp only [Act.put, List.setIfInBounds_toArray, List.set_cons_zero, List.set_cons_succ, i64_w, i32_w]
                rfl
              refine take_ (i := 9) (N := (some 52)) (v := ?_) (a' := ?_) #[true, true, true, true, true, true, true, true, true, true, false, false, false, false, false] rfl rfl (by kernel_rfl) (fun _ _ _ h => h) (Or.inl ⟨by rfl, ?_⟩) hHeld ?_ ?_
              rotate_left
              · rintro w' ⟨s0, s1⟩
                go_simp
                with_reducible rfl
              rotate_left
              · simp only [Act.put, List.setIfInBounds_toArray, List.set_cons_zero, List.set_cons_succ, i64_w, i32_w]
                rfl
              refine pure_ (i := 10) (N := (some 53)) (v := ?_) (a' := ?_) #[true, true, true, true, true, true, true, true, true, true, true, false, false, false, false] rfl rfl (by kernel_rfl) (fun _ _ _ h => h) (Or.inl ⟨by rfl, ?_⟩) ?_ ?_
              rotate_left
              · intro w'
                go_simp
                with_reducible rfl
              rotate_left
              · simp only [Act.put, List.setIfInBounds_toArray, List.set_cons_zero, List.set_cons_succ, i64_w, i32_w]
                rfl
              refine last_ (i := 11) (N := (some 54)) #[true, true, true, true, true, true, true, true, true, true, true, true, false, false, false] rfl rfl (by kernel_rfl) (by decide) (fun K hK => ?_)
              refine goes_ Try.func59 (by kernel_rfl) rfl #[.int .i64 (wrap64 (x + y)), .int .i64 2] (by rfl) rfl rfl (by (try simp only [List.map_toArray, List.map_cons, List.map_nil]); first | done | rfl) ?_
              rw [e1]
              refine (spec_DivFloor s 2 _ (by omega) (by omega) (by omega)).mono ?_
              rintro e w8 ⟨rfl, rfl⟩
              rw [HZ.out]
              refine ⟨_, rfl, ?_⟩
              refine hK.out _ _ ?_
              clear hK K
              refine norm_ (a' := ?_) ?_ ?_
              rotate_left
              · show Act.put _ (some 54) _ = _
                simp only [Act.put, List.setIfInBounds_toArray, List.set_cons_zero, List.set_cons_succ, i64_w, i32_w]
                rfl
              refine last_ (i := 12) (N := (some 55)) #[true, true, true, true, true, true, true, true, true, true, true, true, true, false, false] rfl rfl (by kernel_rfl) (by decide) (fun K hK => ?_)
              refine value_ (w1 := ?_) (v := ?_) (by rfl) rfl ?_ ?_
              rotate_left 2
              · go_simp
                constructor
                · rfl
                · rfl
              refine hK.out _ _ ?_
              clear hK K
              refine norm_ (a' := ?_) ?_ ?_
              rotate_left
              · show Act.put _ (some 55) _ = _
                simp only [Act.put, List.setIfInBounds_toArray, List.set_cons_zero, List.set_cons_succ, i64_w, i32_w]
                rfl
              refine last_ (i := 13) (N := (some 56)) #[true, true, true, true, true, true, true, true, true, true, true, true, true, true, false] rfl rfl (by kernel_rfl) (by decide) (fun K hK => ?_)
              refine step_append_cells (w0 := w) w.heap.size (by rfl) (.tmp 43) (.tmp 55) 24 3 (.int .i64 0) 1 8 rfl Try.underlying24 info_int rfl (by decide) (by decide) u3 (coTo l j k).length (nums .i64 (coTo l j k)) [.int .i64 z] rfl rfl rfl (by simp [Value.oneCell']) (hO.to (Bw.drawn ⟨⟨1, rfl⟩⟩)).out (hB.trans (Bw.drawn ⟨⟨1, rfl⟩⟩)).out (hB.trans (Bw.drawn ⟨⟨1, rfl⟩⟩)).size (by rw [HN.out]; have := HK.out; omega) ?_
              intro v1 w9 hown1 hB1 hg1 _
              refine hK.out _ _ ?_
              clear hK K
              refine norm_ (a' := ?_) ?_ ?_
              rotate_left
              · show Act.put _ (some 56) _ = _
                simp only [Act.put, List.setIfInBounds_toArray, List.set_cons_zero, List.set_cons_succ, i64_w, i32_w]
                rfl
              have hO9 : OI w9 w.heap.size v1 ((coTo l j k).length + 1) (coTo l j k ++ [z]) := OI.one hown1
              have hB9 : Bw w w9 := ⟨hB1⟩
              refine last_ (i := 14) (N := (some 3)) #[true, true, true, true, true, true, true, true, true, true, true, true, true, true, true] rfl rfl (by kernel_rfl) (by decide) (fun K hK => ?_)
              refine value_ (w1 := ?_) (v := ?_) (by rfl) rfl ?_ ?_
              rotate_left 2
              · go_simp
                constructor
                · rfl
                · rfl
              refine hK.out _ _ ?_
              clear hK K
              refine norm_ (a' := ?_) ?_ ?_
              rotate_left
              · show Act.put _ (some 3) _ = _
                simp only [Act.put, List.setIfInBounds_toArray, List.set_cons_zero, List.set_cons_succ, i64_w, i32_w]
                rfl
              refine done_ (by kernel_rfl) ?_
              clear e1 e2
              go_wp2
              go_roundw
              case rel => exact ⟨k + 1, by have := HI.out; omega, by have := HI.out; go_num, by rw [HS.out, hm.out, List.length_append]; exact hO9, hB9⟩
              case measure => have := HI.out; simp [intOf]; omega
          · have t1 : decide ((i : Int) < (j : Int)) = false := decide_eq_false (by omega)
            have hh : (j + 1) / 2 = k := two_div j k HK.out (by have := HI.out; omega)
            have e0 : R = coTo l j k := by rw [eR.out, hh]
            have e1 : n2 = (coTo l j k).length := by rw [HN2.out, e0]
            have E0 := hid e0
            have E1 := hid e1
            clear e0 e1
            go_wp2
            go_ret
            rw [E0.out, E1.out]
            exact ⟨_, rfl, hO, hB⟩
end Go.Proofs.Ytpnciejalcdgeaa.U
