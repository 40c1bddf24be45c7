
/- A cycle of the multigrid, by the program. -/
import Derived.Test.YtpnciejalcdgeaaCq
import Derived.Test.YtpnciejalcdgeaaRx
import Derived.Test.YtpnciejalcdgeaaEb
import Derived.Test.YtpnciejalcdgeaaFp
import Derived.Test.YtpnciejalcdgeaaCp
set_option linter.unusedVariables false
set_option linter.unusedSimpArgs false
namespace Go.Proofs.Ytpnciejalcdgeaa.U
open Go.RowKit Go.Lib Go.Proofs.YtpnciejalcdgeaaW.PrintWords

attribute [local go_sem] go_max2 go_min2
open Go.Proofs.YtpnciejalcdgeaaW.PrintLast Go.Proofs.YtpnciejalcdgeaaW.PrintMore
/-- the correction after j sweeps -/
def eTo (r : List Int) (K : Int) (h : Nat) : Nat → List Int
  | 0 => List.replicate h 0
  | j + 1 => relTo (eTo r K h j) r K h h
theorem eTo_length (r : List Int) (K : Int) (h : Nat) : ∀ j, (eTo r K h j).length = h
  | 0 => by simp [eTo]
  | j + 1 => by rw [eTo, relTo_length, eTo_length r K h j]
theorem eTo_bd (r : List Int) (K : Int) (h : Nat) (hr : Bd r 1000000000) (hl : r.length = h) (hK : 0 ≤ K) : ∀ j, Bd (eTo r K h j) 1000000000
  | 0 => ⟨fun i hi => by
    rw [eTo] at hi ⊢
    rw [List.length_replicate] at hi
    rw [rd_nat, List.getD_eq_getElem?_getD, List.getElem?_replicate, if_pos hi]
    exact ⟨by decide, by decide⟩⟩
  | j + 1 => relTo_bd _ r K h 1000000000 (by omega) (eTo_bd r K h hr hl hK j) hr (by rw [eTo_length]; exact Nat.le_refl _) (by omega) hK h (Nat.le_refl _)
theorem rd_map (F : Nat → Int) (n i : Nat) (h : i < n) : rd ((List.range n).map F) (i : Int) = F i := by
  rw [rd_nat, List.getD_eq_getElem?_getD]
  simp [h]
theorem clTo_bd (l : List Int) (j : Nat) : Bd (clTo l j) 1000000000 := ⟨fun i hi => by
  rw [clTo_length] at hi
  unfold clTo
  rw [rd_map _ _ _ hi]
  exact cl_range _⟩
theorem clTo_id (l : List Int) (n : Nat) (hl : l.length = n) (hb : Bd l 1000000000) : clTo l n = l := by
  apply List.ext_getElem (by rw [clTo_length, hl])
  intro i h1 h2
  have := hb.out i h2
  simp only [clTo, List.getElem_map, List.getElem_range]
  rw [cl_id this, rd_nat, List.getD_eq_getElem?_getD, List.getElem?_eq_getElem h2]
  rfl
/-- the right side of the coarse equations -/
def rightC (u f : List Int) (k : Int) (n : Nat) : List Int := clTo (coTo (resTo u f k n n) n ((n + 1) / 2)) ((n + 1) / 2)
def sumTo (x g : List Int) (j : Nat) : List Int := (List.range j).map fun i => cl (rd x ((i : Nat) : Int) + rd g ((i : Nat) : Int))
theorem sumTo_length (x g : List Int) (j : Nat) : (sumTo x g j).length = j := by simp [sumTo]
theorem sumTo_snoc (x g : List Int) (j : Nat) : sumTo x g (j + 1) = sumTo x g j ++ [cl (rd x (j : Int) + rd g (j : Int))] := by simp [sumTo, List.range_succ]
theorem sumTo_bd (x g : List Int) (j : Nat) : Bd (sumTo x g j) 1000000000 := ⟨fun i hi => by
  rw [sumTo_length] at hi
  unfold sumTo
  rw [rd_map _ _ _ hi]
  exact cl_range _⟩
/-- unknowns after a correction -/
def corrL (u f : List Int) (k : Int) (n : Nat) : List Int := sumTo u (fineTo (eTo (rightC u f k n) (k / 4) ((n + 1) / 2) 2) n) n
def fixTo (x g : List Int) (j : Nat) : List Int := sumTo x g j ++ g.drop j
theorem fixTo_zero (x g : List Int) : fixTo x g 0 = g := by simp [fixTo, sumTo]
theorem fixTo_end (x g : List Int) (n : Nat) (h : g.length = n) : fixTo x g n = sumTo x g n := by
  unfold fixTo
  rw [List.drop_of_length_le (by omega), List.append_nil]
theorem fixTo_rd (x g : List Int) (j : Nat) (h : j < g.length) : rd (fixTo x g j) (j : Int) = rd g (j : Int) := by
  unfold fixTo
  rw [rd_nat, rd_nat, List.getD_eq_getElem?_getD, List.getD_eq_getElem?_getD, List.getElem?_append_right (by rw [sumTo_length]; exact Nat.le_refl _), sumTo_length, Nat.sub_self, List.getElem?_drop, Nat.add_zero]
theorem fixTo_step (x g : List Int) (j : Nat) (h : j < g.length) : fixTo x g (j + 1) = (fixTo x g j).set j (cl (rd x (j : Int) + rd g (j : Int))) := by
  unfold fixTo
  rw [List.set_append_right _ _ (by rw [sumTo_length]; exact Nat.le_refl _), sumTo_length, Nat.sub_self, sumTo_snoc, List.drop_eq_getElem_cons h, List.set_cons_zero, List.append_assoc]
  rfl
theorem fine_bd (e : List Int) (n : Nat) (hb : Bd e 1000000000) (h : (n + 1) / 2 ≤ e.length) : Bd (fineTo e n) 1000000000 := ⟨fun i hi => by
  rw [fineTo_length] at hi
  unfold fineTo
  rw [rd_map _ _ _ hi]
  exact hb.out (i / 2) (by omega)⟩
/-- unknowns after a cycle -/
def cycX (u f : List Int) (k : Int) (n : Nat) : List Int :=
  if 2 ≤ n then (if absMost (resTo (corrL u f k n) f k n n) n ≤ absMost (resTo u f k n n) n then corrL u f k n else u) else u
def cycL (u f : List Int) (k : Int) (n : Nat) : List Int := relTo (cycX (relTo u f k n n) f k n) f k n n
theorem cycX_length (u f : List Int) (k : Int) (n : Nat) (h : u.length = n) : (cycX u f k n).length = n := by unfold cycX; split; split; exact sumTo_length _ _ _; exact h; exact h
theorem cycX_bd (u f : List Int) (k : Int) (n : Nat) (h : Bd u 1000000000) : Bd (cycX u f k n) 1000000000 := by unfold cycX; split; split; exact sumTo_bd _ _ _; exact h; exact h
theorem cycL_length (u f : List Int) (k : Int) (n : Nat) (h : u.length = n) : (cycL u f k n).length = n := by unfold cycL; rw [relTo_length, cycX_length _ _ _ _ (by rw [relTo_length, h])]
theorem cycL_bd (u f : List Int) (k : Int) (n : Nat) (hl : u.length = n) (hlf : f.length = n) (hu : Bd u 1000000000) (hf : Bd f 1000000000) (hk : 0 ≤ k) : Bd (cycL u f k n) 1000000000 := by
  unfold cycL
  have h1 := relTo_bd u f k n 1000000000 (by omega) hu hf (by omega) (by omega) hk n (Nat.le_refl _)
  have h2 := cycX_bd (relTo u f k n n) f k n h1
  have h3 := cycX_length (relTo u f k n n) f k n (by rw [relTo_length, hl])
  exact relTo_bd _ f k n 1000000000 (by omega) h2 hf (by omega) (by omega) hk n (Nat.le_refl _)
theorem tdiv4 (k : Int) (h : 0 ≤ k) : Int.tdiv k 4 = k / 4 := Int.tdiv_eq_ediv_of_nonneg h
theorem Apart.app' {W : World} {base n : Nat} {v v1 u : Value} {l : List Int} (h : Apart v u) (hu : OI W base u n l) (hg : v1.ownBlock = v.ownBlock ∨ ∃ b, v1.ownBlock = some b ∧ W.heap.size ≤ b) : Apart v1 u := by
  rcases hg with e | ⟨b, e, hb⟩
  · rcases h with h | h
    · exact .inl (e.trans h)
    · exact .inr (by rw [e]; exact h)
  · refine .inr fun e2 => ?_
    rw [e] at e2
    have := (World.ownsRow.lt hu.out b e2.symm).2
    omega

set_option maxRecDepth 100000 in
set_option maxHeartbeats 8000000 in
theorem impl_corrected (A : Option Addr) (n c : Nat) (u : List Int) (B : Option Addr) (d : Nat) (f : List Int) (k : Int) (w : World) (r : RI w A n u) (q : RI w B n f) (hn : 2 ≤ n ∧ n ≤ 64)
    (hu : Bd u 1000000000) (hf : Bd f 1000000000) (hk0 : 0 ≤ k) (hk1 : k ≤ 1000) :
    Calls Try.prog 48 #[.slice A n c, .slice B n d, .int .i64 k] w fun e w' => ∃ v, e = .returned v ∧ OI w' w.heap.size v n (corrL u f k n) ∧ Bw w w' := by
  obtain ⟨h, hh⟩ : ∃ h, (n + 1) / 2 = h := ⟨_, rfl⟩
  obtain ⟨K, hK⟩ : ∃ K, k / 4 = K := ⟨_, rfl⟩
  have hlu := r.len
  have hlf := q.len
  have hres : Bd (resTo u f k n n) 4002000000000000000 := resTo_bd u f k n (hu.mono (by omega)) (hf.mono (by omega)) (by omega) (by omega) hk0 hk1
  have hresl := resTo_length u f k n n
  have HC := hid (show corrL u f k n = sumTo u (fineTo (eTo (clTo (coTo (resTo u f k n n) n h) h) K h 2) n) n by unfold corrL rightC; rw [hh, hK])
  have HX := hid (show ∀ j : Nat, j < n → -1000000000 ≤ rd u (j : Int) ∧ rd u (j : Int) ≤ 1000000000 from fun j hj => hu.out j (by omega))
  have td : Int.tdiv k 4 = K := by rw [tdiv4 k hk0, hK]
  have hK0 : 0 ≤ K := by omega
  have hK1 : K ≤ 250 := by omega
  have wK : wrap64 K = K := w64 (by omega) (by omega)
  have HU := hid hu
  have HF := hid hf
  clear hu hf hlu hlf
  obtain ⟨R, HR⟩ : ∃ R, Hid (R = corrL u f k n) := ⟨_, hid rfl⟩
  rw [← HR.out]
  have o0 := OI.lit0 w w.heap.size (Nat.le_refl _)
  have b0 : Bw w (w.alloc (.cells #[] 3)) := (Bw.refl w).alloc _
  go_enter Try.func48, Try.ntmps48
  go_wp2_with fail
  refine (impl_residual A n c u B n d f k _ (r.to b0) (q.to b0) (Nat.le_refl _) (by omega) (HU.out.mono (by omega)) (HF.out.mono (by omega)) hk0 hk1).mono ?_
  rintro e w1 ⟨v, rfl, o, b1⟩
  obtain ⟨A1, c1, rfl, rr⟩ := o.reads
  have hcap := o.cap
  obtain ⟨g1, rfl, _, _⟩ := o.form (by omega)
  generalize hL : resTo u f k n n = L at *
  go_wp2_with fail
  refine (impl_coarse _ n c1 L _ rr (by omega) hcap (fun i hi => by have := hres.out i (by omega); omega)).mono ?_
  rintro e w2 ⟨v, rfl, o2, b2⟩
  rw [hh, meansL_to _ _ _ (by omega)] at o2
  have o0' := (o0.to b1).to b2
  have ap : Apart (.slice (some ⟨w.heap.size, 0, none⟩) 0 0) v := (o0.to b1).apart o2 (Nat.le_refl _)
  have bb := (b0.trans b1).trans b2
  replace o2 := o2.base (show w.heap.size ≤ w1.heap.size by have := (b0.trans b1).size; omega)
  have HM := hid (coTo_length L n)
  generalize coTo L n h = M at *
  have hM : M.length = h := o2.len
  obtain ⟨A2, c2, rfl, _⟩ := o2.reads
  clear o0 b0 b1 b2 o rr hcap hres hresl hL
  have HN := hid (clTo_length M)
  have HH := hid hh
  have hhb : 1 ≤ h ∧ h ≤ 32 := by omega
  clear hh hK hM
  go_wp2
  go_loopw [7, 20] (fun v i wr => ∃ j : Nat, j ≤ h ∧ i = .int .i64 j ∧ OI wr w.heap.size v (clTo M j).length (clTo M j) ∧ Hid (OI wr w.heap.size (.slice A2 h c2) h M ∧ Apart v (.slice A2 h c2)) ∧ Bw w wr) (fun _ i _ => h - (intOf i).toNat)
  case atStart => exact ⟨0, by omega, rfl, o0', hid ⟨o2, ap⟩, bb⟩
  case round =>
    obtain ⟨j, hj, rfl, hO, hD, hB⟩ := hrel
    have HS := hid (clTo_snoc M j)
    by_cases hlt : j < h
    · have t1 : decide ((j : Int) < (h : Int)) = true := decide_eq_true (by omega)
      obtain ⟨ad, rfl, hc⟩ := hD.out.1.ri.nat j hlt
      generalize rd M (j : Int) = x at *
      go_wp2_with (first | (go_at_call 64; refine (impl_Clamp _ _).mono ?_; rintro e w' ⟨rfl, rfl⟩) | (at_builtin; refine print_append_num (w0 := w) w.heap.size rfl _ _ 24 3 .i64 8 rfl Try.underlying24 info_int (by omega) u7 (clTo M j) (cl x) rfl rfl hO.out hB.out hB.size (by rw [HN.out]; omega) ?_; intro v1 w3 hown1 hB1 hg1 hat1))
      go_roundw
      case rel => exact ⟨j + 1, by omega, by go_num, by rw [HS.out]; exact ⟨hown1⟩, hid ⟨hD.out.1.grown hg1 hD.out.2.symm, Apart.app' hD.out.2 hD.out.1 hat1⟩, ⟨hB1⟩⟩
      case measure => simp [intOf]; omega
    · obtain rfl : j = h := by omega
      have t1 : decide ((j : Int) < (j : Int)) = false := decide_eq_false (by omega)
      clear hD
      have hBd := clTo_bd M j
      have hlen := clTo_length M j
      rw [hlen] at hO
      generalize clTo M j = Z at *
      obtain ⟨A3, c3, rfl, _⟩ := hO.reads
      have hmk := print_make (P := Try.prog) 24 3 .i64 8 Try.underlying24 info_int (by omega) j (by omega)
      have oZ : OI (wr.alloc (.cells (madeCells #[.int .i64 0] j) 3)) wr.heap.size (.slice (some ⟨wr.heap.size, 0, none⟩) j j) j (List.replicate j 0) := ⟨own_made wr wr.heap.size 3 .i64 j (Nat.le_refl _) (by omega)⟩
      have bZ : Bw wr (wr.alloc (.cells (madeCells #[.int .i64 0] j) 3)) := (Bw.refl wr).alloc _
      have hO2 := hO.to bZ
      have bb2 := hB.trans bZ
      replace oZ := oZ.base hB.size
      have HE := hid (fun i => eTo_bd Z K j hBd hlen hK0 i)
      have HEL := hid (eTo_length Z K j)
      have HZ := hid hBd
      clear hO hB bZ hBd hlen o0' o2 ap bb
      clear HS HN hhb hlt hj t1 HM
      have hj32 : 1 ≤ j ∧ j ≤ 32 := by have := HH.out; omega
      go_wp2
      go_loopw [10, 33] (fun v i wr' => ∃ p : Nat, p ≤ 2 ∧ i = .int .i64 p ∧ OI wr' w.heap.size v j (eTo Z K j p) ∧ Hid (OI wr' w.heap.size (.slice A3 j c3) j Z) ∧ Bw w wr') (fun _ i _ => 2 - (intOf i).toNat)
      case atStart => exact ⟨0, by omega, rfl, oZ, hid hO2, bb2⟩
      case round =>
        obtain ⟨p, hp, rfl, hO, hZ, hB⟩ := hrel
        obtain ⟨A4, c4, rfl, _⟩ := hO.reads
        by_cases hlt : p < 2
        · have t1 : decide ((p : Int) < 2) = true := decide_eq_true (by omega)
          go_wp2_with fail
          refine (impl_relax A4 j c4 (eTo Z K j p) A3 j c3 Z K _ hO.ri hZ.out.ri rfl (by omega) (HE.out p) HZ.out hK0 (by omega)).mono ?_
          rintro e w5 ⟨v, rfl, o5, b5⟩
          go_wp2
          go_roundw
          case rel => exact ⟨p + 1, by omega, by go_num, o5.base hB.size, hid (hZ.out.to b5), hB.trans b5⟩
          case measure => simp [intOf]; omega
        · obtain rfl : p = 2 := by omega
          have t1 : decide (((2 : Nat) : Int) < 2) = false := rfl
          have hlE := HEL.out 2
          have hbE := HE.out 2
          have HR2 := hid (HR.out.trans HC.out)
          clear HZ HE HEL hZ HC HR
          generalize eTo Z K j 2 = E at *
          have hG := fineTo_length E n
          have HGB := hid (fine_bd E n hbE (by rw [hlE, HH.out]; exact Nat.le_refl _))
          clear hbE hlE
          go_wp2_with fail
          refine (impl_FinePart A4 j c4 n E _ hO.ri (by omega) HH.out.symm).mono ?_
          rintro e w6 ⟨v, rfl, o6, b6⟩
          replace o6 := o6.base hB.size
          replace hB := hB.trans b6
          generalize fineTo E n = G at *
          obtain ⟨A5, c5, rfl, _⟩ := o6.reads
          obtain ⟨g, rfl, hgb, _⟩ := o6.form (by omega)
          have HST := hid (fixTo_step u G)
          have HRD := hid (fixTo_rd u G)
          have HG := hid hG
          clear b6 hO hG
          go_wp2
          go_loopw [47] (fun i wr => ∃ j : Nat, j ≤ n ∧ i = .int .i64 j ∧ Hid (OI wr w.heap.size (.slice (some ⟨g, 0, none⟩) n c5) n (fixTo u G j)) ∧ Hid (Bw w wr)) (fun i _ => n - (intOf i).toNat)
          case atStart => exact ⟨0, by omega, rfl, hid (by rw [fixTo_zero]; exact o6), hid hB⟩
          case round =>
            obtain ⟨j, hj, rfl, hO, hB⟩ := hrel
            by_cases hlt : j < n
            · have t1 : decide ((j : Int) < (n : Int)) = true := decide_eq_true (by omega)
              obtain ⟨ad, rfl, hc⟩ := (r.to hB.out).nat j hlt
              obtain ⟨hcy, ho2⟩ := own_at hO.out.out (j : Int) (by omega) (by omega)
              rw [Int.toNat_natCast] at hcy ho2
              rw [HRD.out j (by rw [HG.out]; exact hlt)] at hcy
              have hx := HX.out j hlt
              have hy := HGB.out.out j (by rw [HG.out]; exact hlt)
              have hnext := hid (HST.out j (by rw [HG.out]; exact hlt))
              generalize rd u (j : Int) = x at *
              generalize rd G (j : Int) = y at *
              have e1 : wrap64 (x + y) = x + y := w64 (by omega) (by omega)
              obtain ⟨s, hs⟩ : ∃ s, x + y = s := ⟨_, rfl⟩
              rw [hs] at hnext
              replace e1 := e1.trans hs
              clear hs hx hy
              obtain ⟨z, hz⟩ : ∃ z, cl s = z := ⟨_, rfl⟩
              have i0 : (0 : Int) ≤ (j : Int) := by omega
              have i1 : (j : Int) < (n : Int) := by omega
              go_wp2
              refine start_ (n := 14) (S := fun w' => w'.cell? (ad.add j) = some (.int .i64 x) ∧ w'.cell? ⟨g, j, none⟩ = some (.int .i64 y)) (ds := [11, 13]) #[false, false, false, false, false, false, false, false, false, false, false, false, false, false] (by kernel_rfl) rfl rfl ⟨hc, hcy⟩ (fun hHeld => ?_)
              refine pure_ (i := 0) (N := (some 50)) (v := ?_) (a' := ?_) #[true, false, false, false, false, false, false, false, false, false, false, false, false, false] rfl rfl (by kernel_rfl) (fun _ _ _ h => h) (Or.inl ⟨by rfl, ?_⟩) ?_ ?_
              rotate_left
              · intro w'
                go_simp
                with_reducible rfl
              rotate_left
              · simp only [Act.put, List.setIfInBounds_toArray, List.set_cons_zero, List.set_cons_succ, i64_w, i32_w]
                rfl
              refine pure_ (i := 1) (N := (some 51)) (v := ?_) (a' := ?_) #[true, true, false, false, false, false, false, false, false, false, false, false, false, false] rfl rfl (by kernel_rfl) (fun _ _ _ h => h) (Or.inl ⟨by rfl, ?_⟩) ?_ ?_
              rotate_left
              · intro w'
                go_simp
                with_reducible rfl
              rotate_left
              · simp only [Act.put, List.setIfInBounds_toArray, List.set_cons_zero, List.set_cons_succ, i64_w, i32_w]
                rfl
              refine pure_ (i := 2) (N := (some 52)) (v := ?_) (a' := ?_) #[true, true, true, false, false, false, false, false, false, false, false, false, false, false] rfl rfl (by kernel_rfl) (fun _ _ _ h => h) (Or.inl ⟨by rfl, ?_⟩) ?_ ?_
              rotate_left
              · intro w'
                go_simp
                with_reducible rfl
              rotate_left
              · simp only [Act.put, List.setIfInBounds_toArray, List.set_cons_zero, List.set_cons_succ, i64_w, i32_w]
                rfl
              refine pure_ (i := 3) (N := (some 53)) (v := ?_) (a' := ?_) #[true, true, true, true, false, false, false, false, false, false, false, false, false, false] rfl rfl (by kernel_rfl) (fun _ _ _ h => h) (Or.inl ⟨by rfl, ?_⟩) ?_ ?_
              rotate_left
              · intro w'
                go_simp
                with_reducible rfl
              rotate_left
              · simp only [Act.put, List.setIfInBounds_toArray, List.set_cons_zero, List.set_cons_succ, i64_w, i32_w]
                rfl
              refine pure_ (i := 4) (N := (some 54)) (v := ?_) (a' := ?_) #[true, true, true, true, true, false, false, false, false, false, false, false, false, false] rfl rfl (by kernel_rfl) (fun _ _ _ h => h) (Or.inl ⟨by rfl, ?_⟩) ?_ ?_
              rotate_left
              · intro w'
                go_simp
                with_reducible rfl
              rotate_left
              · simp only [Act.put, List.setIfInBounds_toArray, List.set_cons_zero, List.set_cons_succ, i64_w, i32_w]
                rfl
              refine take_ (i := 5) (N := (some 55)) (v := ?_) (a' := ?_) #[true, true, true, true, true, true, false, false, false, false, false, false, false, false] rfl rfl (by kernel_rfl) (fun _ _ _ h => h) (Or.inl ⟨by rfl, ?_⟩) hHeld ?_ ?_
              rotate_left
              · rintro w' ⟨s0, s1⟩
                go_simp
                with_reducible rfl
              rotate_left
              · simp only [Act.put, List.setIfInBounds_toArray, List.set_cons_zero, List.set_cons_succ, i64_w, i32_w]
                rfl
              refine pure_ (i := 6) (N := (some 56)) (v := ?_) (a' := ?_) #[true, true, true, true, true, true, true, false, false, false, false, false, false, false] rfl rfl (by kernel_rfl) (fun _ _ _ h => h) (Or.inl ⟨by rfl, ?_⟩) ?_ ?_
              rotate_left
              · intro w'
                go_simp
                with_reducible rfl
              rotate_left
              · simp only [Act.put, List.setIfInBounds_toArray, List.set_cons_zero, List.set_cons_succ, i64_w, i32_w]
                rfl
              refine pure_ (i := 7) (N := (some 57)) (v := ?_) (a' := ?_) #[true, true, true, true, true, true, true, true, false, false, false, false, false, false] rfl rfl (by kernel_rfl) (fun _ _ _ h => h) (Or.inl ⟨by rfl, ?_⟩) ?_ ?_
              rotate_left
              · intro w'
                go_simp
                with_reducible rfl
              rotate_left
              · simp only [Act.put, List.setIfInBounds_toArray, List.set_cons_zero, List.set_cons_succ, i64_w, i32_w]
                rfl
              refine pure_ (i := 8) (N := (some 58)) (v := ?_) (a' := ?_) #[true, true, true, true, true, true, true, true, true, false, false, false, false, false] rfl rfl (by kernel_rfl) (fun _ _ _ h => h) (Or.inl ⟨by rfl, ?_⟩) ?_ ?_
              rotate_left
              · intro w'
                go_simp
                with_reducible rfl
              rotate_left
              · simp only [Act.put, List.setIfInBounds_toArray, List.set_cons_zero, List.set_cons_succ, i64_w, i32_w]
                rfl
              refine take_ (i := 9) (N := (some 59)) (v := ?_) (a' := ?_) #[true, true, true, true, true, true, true, true, true, true, false, false, false, false] rfl rfl (by kernel_rfl) (fun _ _ _ h => h) (Or.inl ⟨by rfl, ?_⟩) hHeld ?_ ?_
              rotate_left
              · rintro w' ⟨s0, s1⟩
                go_simp
                with_reducible rfl
              rotate_left
              · simp only [Act.put, List.setIfInBounds_toArray, List.set_cons_zero, List.set_cons_succ, i64_w, i32_w]
                rfl
              refine pure_ (i := 10) (N := (some 60)) (v := ?_) (a' := ?_) #[true, true, true, true, true, true, true, true, true, true, true, false, false, false] rfl rfl (by kernel_rfl) (fun _ _ _ h => h) (Or.inl ⟨by rfl, ?_⟩) ?_ ?_
              rotate_left
              · intro w'
                go_simp
                with_reducible rfl
              rotate_left
              · simp only [Act.put, List.setIfInBounds_toArray, List.set_cons_zero, List.set_cons_succ, i64_w, i32_w]
                rfl
              refine last_ (i := 11) (N := (some 61)) #[true, true, true, true, true, true, true, true, true, true, true, true, false, false] rfl rfl (by kernel_rfl) (by decide) (fun K hK => ?_)
              refine goes_ Try.func64 (by kernel_rfl) rfl #[.int .i64 (wrap64 (x + y)), .int .i64 (-1000000000), .int .i64 1000000000] (by rfl) rfl rfl (by (try simp only [List.map_toArray, List.map_cons, List.map_nil]); first | done | rfl) ?_
              rw [e1]
              refine (impl_Clamp s _).mono ?_
              rintro e w8 ⟨rfl, rfl⟩
              refine ⟨_, rfl, ?_⟩
              refine hK.out _ _ ?_
              clear hK K
              refine norm_ (a' := ?_) ?_ ?_
              rotate_left
              · show Act.put _ (some 61) _ = _
                simp only [Act.put, List.setIfInBounds_toArray, List.set_cons_zero, List.set_cons_succ, i64_w, i32_w]
                rfl
              refine pure_ (i := 12) (N := (some 62)) (v := ?_) (a' := ?_) #[true, true, true, true, true, true, true, true, true, true, true, true, true, false] rfl rfl (by kernel_rfl) (fun _ _ _ h => h) (Or.inl ⟨by rfl, ?_⟩) ?_ ?_
              rotate_left
              · intro w'
                go_simp
                with_reducible rfl
              rotate_left
              · simp only [Act.put, List.setIfInBounds_toArray, List.set_cons_zero, List.set_cons_succ, i64_w, i32_w]
                rfl
              refine last_ (i := 13) (N := none) #[true, true, true, true, true, true, true, true, true, true, true, true, true, true] rfl rfl (by kernel_rfl) (by decide) (fun K hK => ?_)
              refine skip_ (w1 := ?_) (by rfl) rfl ?_ ?_
              rotate_left
              · go_simp
                rfl
              refine hK.out _ _ ?_
              clear hK K
              refine done_ (by kernel_rfl) ?_
              clear e1
              go_wp2
              go_roundw
              case rel => exact ⟨j + 1, by omega, by go_num, hid (by rw [hnext.out, hz]; exact (hO.out.store j z).to (Bw.drawn ⟨⟨1, rfl⟩⟩)), hid ((hB.out.store hgb j _).trans (Bw.drawn ⟨⟨1, rfl⟩⟩))⟩
              case measure => simp [intOf]; omega
            · obtain rfl : j = n := by omega
              have t1 : decide ((j : Int) < (j : Int)) = false := decide_eq_false (by omega)
              go_wp2
              go_ret
              exact ⟨_, rfl, by rw [HR2.out, ← fixTo_end u G j HG.out]; exact hO.out, hB.out⟩

set_option maxRecDepth 100000 in
set_option maxHeartbeats 4000000 in
theorem impl_cycle (A : Option Addr) (n c : Nat) (u : List Int) (B : Option Addr) (d : Nat) (f : List Int) (k : Int) (w : World) (r : RI w A n u) (q : RI w B n f) (hn : 1 ≤ n ∧ n ≤ 64)
    (hu : Bd u 1000000000) (hf : Bd f 1000000000) (hk0 : 0 ≤ k) (hk1 : k ≤ 1000) :
    Calls Try.prog 27 #[.slice A n c, .slice B n d, .int .i64 k] w fun e w' => ∃ v, e = .returned v ∧ OI w' w.heap.size v n (cycL u f k n) ∧ Bw w w' := by
  have hlu := r.len
  have hlf := q.len
  have hx := relTo_bd u f k n 1000000000 (by omega) hu hf (by omega) (by omega) hk0 n (Nat.le_refl _)
  have hxl : (relTo u f k n n).length = n := by rw [relTo_length, hlu]
  have HC := hid (show cycL u f k n = relTo (cycX (relTo u f k n n) f k n) f k n n from rfl)
  have HU := hid hu
  have HF := hid hf
  have HLF := hid hlf
  clear hu hf hlu hlf
  obtain ⟨R, HR⟩ : ∃ R, Hid (R = cycL u f k n) := ⟨_, hid rfl⟩
  rw [← HR.out]
  go_enter Try.func27, Try.ntmps27
  go_wp2_with fail
  refine (impl_relax A n c u B n d f k _ r q rfl (by omega) HU.out HF.out hk0 hk1).mono ?_
  rintro e w1 ⟨v, rfl, o, b1⟩
  obtain ⟨A1, c1, rfl, _⟩ := o.reads
  generalize relTo u f k n n = x at *
  have HX := hid hx
  have HXB := hid (cycX_bd x f k n hx)
  have HXL := hid (cycX_length x f k n hxl)
  clear hx
  have q1 := q.to b1
  by_cases h2 : 2 ≤ n
  · have t2 : decide ((n : Int) ≥ 2) = true := decide_eq_true (by omega)
    go_wp2_with fail
    refine (impl_corrected A1 n c1 x B d f k _ o.ri q1 ⟨h2, hn.2⟩ HX.out HF.out hk0 hk1).mono ?_
    rintro e w2 ⟨v, rfl, o2, b2⟩
    obtain ⟨A2, c2, rfl, _⟩ := o2.reads
    have HYB := hid (sumTo_bd x (fineTo (eTo (rightC x f k n) (k / 4) ((n + 1) / 2) 2) n) n)
    have HY := hid (show cycX x f k n = if absMost (resTo (corrL x f k n) f k n n) n ≤ absMost (resTo x f k n n) n then corrL x f k n else x by unfold cycX; rw [if_pos h2])
    have HYB2 : Hid (Bd (corrL x f k n) 1000000000) := hid HYB.out
    clear HYB
    generalize corrL x f k n = y at *
    have q2 := q1.to b2
    have o1 := o.to b2
    replace o2 := o2.base b1.size
    replace b1 := b1.trans b2
    clear o q1 b2
    go_wp2_with fail
    refine (impl_errorBound A2 n c2 y B n d f k _ o2.ri q2 (Nat.le_refl _) (by omega) (HYB2.out.mono (by omega)) (HF.out.mono (by omega)) hk0 hk1).mono ?_
    rintro e w3 ⟨rfl, b3⟩
    replace q2 := q2.to b3
    replace o1 := o1.to b3
    replace o2 := o2.to b3
    replace b1 := b1.trans b3
    clear b3
    go_wp2_with fail
    refine (impl_errorBound A1 n c1 x B n d f k _ o1.ri q2 (Nat.le_refl _) (by omega) (HX.out.mono (by omega)) (HF.out.mono (by omega)) hk0 hk1).mono ?_
    rintro e w4 ⟨rfl, b4⟩
    replace q2 := q2.to b4
    replace o1 := o1.to b4
    replace o2 := o2.to b4
    replace b1 := b1.trans b4
    clear b4
    generalize absMost (resTo y f k n n) n = ey at *
    generalize absMost (resTo x f k n n) n = ex at *
    by_cases he : ey ≤ ex
    · have t3 : decide (ey ≤ ex) = true := decide_eq_true he
      have e1 : cycX x f k n = y := by rw [HY.out, if_pos he]
      have E1 := hid e1
      clear e1 HY HXB HXL he
      go_wp2_with fail
      refine (impl_relax A2 n c2 y B n d f k _ o2.ri q2 rfl (by omega) HYB2.out HF.out hk0 hk1).mono ?_
      rintro e w5 ⟨v, rfl, o5, b5⟩
      go_wp2
      go_ret
      exact ⟨_, rfl, by rw [HR.out, HC.out, E1.out]; exact o5.base b1.size, b1.trans b5⟩
    · have t3 : decide (ey ≤ ex) = false := decide_eq_false he
      have e1 : cycX x f k n = x := by rw [HY.out, if_neg he]
      have E1 := hid e1
      clear e1 HY HXB HXL he
      go_wp2_with fail
      refine (impl_relax A1 n c1 x B n d f k _ o1.ri q2 rfl (by omega) HX.out HF.out hk0 hk1).mono ?_
      rintro e w5 ⟨v, rfl, o5, b5⟩
      go_wp2
      go_ret
      exact ⟨_, rfl, by rw [HR.out, HC.out, E1.out]; exact o5.base b1.size, b1.trans b5⟩
  · have t2 : decide ((n : Int) ≥ 2) = false := decide_eq_false (by omega)
    have e1 : cycX x f k n = x := by unfold cycX; rw [if_neg h2]
    have E1 := hid e1
    clear e1 HXB HXL h2
    go_wp2_with fail
    refine (impl_relax A1 n c1 x B n d f k _ o.ri q1 rfl (by omega) HX.out HF.out hk0 hk1).mono ?_
    rintro e w5 ⟨v, rfl, o5, b5⟩
    go_wp2
    go_ret
    exact ⟨_, rfl, by rw [HR.out, HC.out, E1.out]; exact o5.base b1.size, b1.trans b5⟩
/-- What Cycle answers. -/
def cycleL (u f : List Int) (k : Int) : List Int := if sysOk u f k = true then cycL u f k u.length else []
theorem cycleL_len (u f : List Int) (k : Int) : (cycleL u f k).length ≤ 1048576 := by
  unfold cycleL
  split
  · rename_i h
    have := sysOk_facts h
    rw [cycL_length _ _ _ _ rfl]
    omega
  · simp
set_option maxHeartbeats 2000000 in
theorem impl_Cycle (A : Option Addr) (n c : Nat) (u : List Int) (B : Option Addr) (m d : Nat) (f : List Int) (k : Int) (w : World) (r : RI w A n u) (q : RI w B m f) :
    Calls Try.prog 10 #[.slice A n c, .slice B m d, .int .i64 k] w fun e w' => ∃ v, e = .returned v ∧ OI w' w.heap.size v (cycleL u f k).length (cycleL u f k) ∧ Bw w w' := by
  have hl := r.len
  have hl2 := q.len
  cases hs : sysOk u f k with
  | false =>
    rw [show cycleL u f k = [] by simp [cycleL, hs]]
    have HS := hid hs; clear hs hl hl2
    go_enter Try.func10, Try.ntmps10
    go_wp2_with fail
    refine (impl_SystemOk A n c u B m d f k _ r q).mono ?_
    rintro e w1 ⟨rfl, b⟩
    rw [HS.out]
    go_wp2
    go_ret
    exact ⟨_, rfl, OI.nil _ _, b⟩
  | true =>
    obtain ⟨f1, f2, f3, f4, f5, f6⟩ := sysOk_facts hs
    rw [show cycleL u f k = cycL u f k n by simp [cycleL, hs, hl], cycL_length u f k n hl]
    obtain rfl : n = m := by omega
    rw [hl] at f2
    have HS := hid hs; clear hs hl hl2 f1
    have HF3 := hid f3
    have HF4 := hid f4
    clear f3 f4
    go_enter Try.func10, Try.ntmps10
    go_wp2_with fail
    refine (impl_SystemOk A n c u B n d f k _ r q).mono ?_
    rintro e w1 ⟨rfl, b⟩
    rw [HS.out]
    go_wp2_with fail
    refine (impl_cycle A n c u B d f k _ (r.to b) (q.to b) f2 HF3.out HF4.out f5 f6).mono ?_
    rintro e w2 ⟨v, rfl, o, b2⟩
    go_wp2
    go_ret
    exact ⟨_, rfl, o.base b.size, b.trans b2⟩
end Go.Proofs.Ytpnciejalcdgeaa.U
