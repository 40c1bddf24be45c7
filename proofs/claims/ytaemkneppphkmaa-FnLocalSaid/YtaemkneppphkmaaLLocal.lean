
/- The law FnLocal returns true at all codes. -/
import Derived.Test.YtaemkneppphkmaaG19
import Derived.Test.YtaemkneppphkmaaG15
import Derived.Test.YtaemkneppphkmaaG10
import Derived.Test.YtaemkneppphkmaaG13
import Derived.Test.YtaemkneppphkmaaG8
import Derived.Test.YtaemkneppphkmaaG12
set_option linter.unusedVariables false
set_option linter.unusedSimpArgs false
namespace Go.Proofs.Ytaemkneppphkmaa.U
open Go.RowKit Go.Lib Go.Proofs.YtaemkneppphkmaaW.PrintWords

open Go.Proofs.YtaemkneppphkmaaW.PrintLast Go.Proofs.YtaemkneppphkmaaW.PrintMore
theorem Rw.rdI' {w : World} {lo hi n c : Nat} {A : Option Addr} {F : List Int} (h : Rw w lo hi 3 1 (.slice A n c) n F) : RI w A n F := (FO.fr h.o).ri
theorem partV_small (s : Sta) (p q : Nat) (hs : StF s) : (partV s p q).lf.length ≤ 400 ∧ (partV s p q).ms.length ≤ 128 ∧ (partV s p q).ts.length ≤ 128 ∧ (partV s p q).bd.length ≤ 8 ∧ (partV s p q).gh.length ≤ 8 := by
  have h1 := hs.n
  have h2 := hs.ms
  have h3 := hs.ts
  have h4 := hs.bd
  have e1 : (partV s p q).lf.length = ((s.lv.take q).drop p).length * 3 := idF_length _
  have e2 : (partV s p q).gh.length = 8 := ghosts_len s p q
  simp only [partV, List.length_drop, List.length_take] at *
  omega
theorem parts_all (s : Sta) (cuts : List Int) (hs : StF s) (i : Nat) (hi : i < (parts s cuts).length) : (gv (parts s cuts) i).lf.length ≤ 400 ∧ (gv (parts s cuts) i).ms.length ≤ 128 ∧ (gv (parts s cuts) i).ts.length ≤ 128 ∧ (gv (parts s cuts) i).bd.length ≤ 8 ∧ (gv (parts s cuts) i).gh.length ≤ 8 := by
  rw [parts_at s cuts i (by rwa [parts_length] at hi)]
  exact partV_small s _ _ hs
theorem parts_short (s : Sta) (cuts : List Int) (hs : StF s) : Short (parts s cuts) := ⟨fun i hi => by
  have := parts_all s cuts hs i hi
  omega⟩
theorem parts_offs (s : Sta) (cuts : List Int) (hs : StF s) : ∀ n, n ≤ (parts s cuts).length → offs (parts s cuts) n ≤ 1000 * n
  | 0, _ => by simp [offs]
  | n + 1, h => by
    have ih := parts_offs s cuts hs n (by omega)
    have := parts_all s cuts hs n (by omega)
    rw [offs, msz]
    omega
theorem parts_most (s : Sta) (cuts : List Int) {n : Int} (hc : cutsOk n cuts = true) : (parts s cuts).length ≤ 16 := by
  have := (cutsOk_facts hc).1
  rw [parts_length]
  omega
theorem parts_szL (s : Sta) (cuts : List Int) (hs : StF s) : ∀ n, n ≤ (parts s cuts).length → szTo (parts s cuts) n ≤ 1000 * n
  | 0, _ => by simp [szTo]
  | n + 1, h => by
    have ih := parts_szL s cuts hs n (by omega)
    have := parts_all s cuts hs n (by omega)
    rw [szTo, vsz]
    omega
theorem stv_partsL {s : Sta} {cuts : List Int} (hs : staOk s.ro s.lv s.ms s.ts s.bd = true) (hc : cutsOk (s.lv.length : Int) cuts = true) (t : Int) : stvOk (parts s cuts) = true ∧ stvL (parts s cuts) t = parts (tickS s t) cuts := by
  have h1 := join_parts hs hc
  have h2 := (cutsOk_facts hc).1
  have hok : stvOk (parts s cuts) = true := by rw [stvOk, h1.1, parts_length]; simp; omega
  refine ⟨hok, ?_⟩
  rw [stvL, if_pos hok, h1.2, parts_length, cutL_parts hc]
theorem rem_natL {p m : Int} (hp : 0 ≤ p) (hm : 0 < m) : ∃ r, Int.tmod p m = r ∧ 0 ≤ r ∧ r < m := ⟨_, rfl, by
  rw [Int.tmod_eq_emod_of_nonneg hp]
  exact Int.emod_nonneg p (by omega), by
  rw [Int.tmod_eq_emod_of_nonneg hp]
  exact Int.emod_lt_of_pos p hm⟩

def leafSd (s : Sta) (k : Nat) : Sd := ⟨1, (gc s.lv k).l, rd s.ms (k : Int), surf s k⟩
theorem gc_part {l : List Ce} {p q i : Nat} (h : p + i < q) : gc ((l.take q).drop p) i = gc l (p + i) := by
  unfold gc
  rw [List.getD_eq_getElem?_getD, List.getD_eq_getElem?_getD, List.getElem?_drop, List.getElem?_take, if_pos h]
theorem rd_part {l : List Int} {p q i : Nat} (h : p + i < q) : rd ((l.take q).drop p) (i : Int) = rd l ((p + i : Nat) : Int) := by
  rw [rd_nat, rd_nat, List.getD_eq_getElem?_getD, List.getD_eq_getElem?_getD, List.getElem?_drop, List.getElem?_take, if_pos h]
theorem ghost_rd (s : Sta) (k : Int) (gh : List Int) (b : Nat) (h : ∀ q : Nat, q < 4 → rd gh ((b + q : Nat) : Int) = rd (ghost s k) (q : Int)) : ghS gh b = if 0 ≤ k ∧ k < s.lv.length then leafSd s k.toNat else ⟨0, 0, 0, 0⟩ := by
  have h0 := h 0 (by omega)
  have h1 := h 1 (by omega)
  have h2 := h 2 (by omega)
  have h3 := h 3 (by omega)
  rw [Nat.add_zero] at h0
  unfold ghS
  rw [h0, h1, h2, h3]
  unfold ghost leafSd
  by_cases hk : 0 ≤ k ∧ k < s.lv.length
  · rw [if_pos hk, if_pos hk]
    have e : ((k.toNat : Nat) : Int) = k := by omega
    rw [e]
    rfl
  · rw [if_neg hk, if_neg hk]
    rfl
theorem app_rd1 (a b : List Int) (q : Nat) (h : q < a.length) : rd (a ++ b) (q : Int) = rd a (q : Int) := by
  rw [rd_nat, rd_nat, List.getD_eq_getElem?_getD, List.getD_eq_getElem?_getD, List.getElem?_append_left h]
theorem app_rd2 (a b : List Int) (q n : Nat) (hn : a.length = n) : rd (a ++ b) ((n + q : Nat) : Int) = rd b (q : Int) := by
  rw [rd_nat, rd_nat, List.getD_eq_getElem?_getD, List.getD_eq_getElem?_getD, List.getElem?_append_right (by omega), show n + q - a.length = q by omega]
section
variable {s : Sta} {p q : Nat}
theorem part_sd (hpq : p < q) (hq : q ≤ s.lv.length) (i : Nat) (hi : i ≤ q - p + 1) :
    sdA ((s.lv.take q).drop p) ((s.ms.take q).drop p) s.bd (ghosts s p q) i = if 1 ≤ p + i ∧ p + i - 1 < s.lv.length then leafSd s (p + i - 1) else ⟨0, 0, 0, 0⟩ := by
  have hl : ((s.lv.take q).drop p).length = q - p := by rw [List.length_drop, List.length_take]; omega
  have hg : ghosts s p q = ghost s ((p : Int) - 1) ++ ghost s (q : Int) := by rw [ghosts, if_pos hpq]
  unfold sdA
  rw [hl]
  by_cases h0 : i = 0
  · subst h0
    rw [if_pos rfl, ghost_rd s ((p : Int) - 1) (ghosts s p q) 0 (fun k hk => by rw [Nat.zero_add, hg]; exact app_rd1 _ _ _ (by rw [ghost_len]; exact hk))]
    by_cases hp : 1 ≤ p
    · rw [if_pos (by omega), if_pos (by omega), show ((p : Int) - 1).toNat = p + 0 - 1 by omega]
    · rw [if_neg (by omega), if_neg (by omega)]
  · rw [if_neg h0]
    by_cases h1 : i ≤ q - p
    · rw [if_pos h1, if_pos (by omega)]
      unfold lfS leafSd surf
      rw [gc_part (by omega), rd_part (by omega), show p + (i - 1) = p + i - 1 by omega]
    · rw [if_neg h1, ghost_rd s (q : Int) (ghosts s p q) 4 (fun k hk => by rw [hg]; exact app_rd2 _ _ _ _ (ghost_len _ _))]
      have e : p + i - 1 = q := by omega
      by_cases h2 : q < s.lv.length
      · rw [if_pos (by omega), if_pos (by omega), e]
        rfl
      · rw [if_neg (by omega), if_neg (by omega)]
theorem part_use (h : staOk s.ro s.lv s.ms s.ts s.bd = true) (hpq : p < q) (hq : q ≤ s.lv.length) : usable ((s.lv.take q).drop p) ((s.ms.take q).drop p) s.bd (ghosts s p q) = true := by
  have hs := StF.of h
  have hl : ((s.lv.take q).drop p).length = q - p := by rw [List.length_drop, List.length_take]; omega
  have hm : ((s.ms.take q).drop p).length = q - p := by rw [List.length_drop, List.length_take, hs.ms]; omega
  have hg : ghosts s p q = ghost s ((p : Int) - 1) ++ ghost s (q : Int) := by rw [ghosts, if_pos hpq]
  have hgl : (ghosts s p q).length = 8 := by rw [hg, List.length_append, ghost_len, ghost_len]
  have hce : ∀ k, k < s.lv.length → ceOk (gc s.lv k) = true := fun k hk => by
    simp only [staOk, isBal, Bool.and_eq_true] at h
    exact meshOk_all h.1.1 _ (gc_mem hk)
  have huse : ∀ i, i < q - p → useAt ((s.lv.take q).drop p) ((s.ms.take q).drop p) s.bd i = true := fun i hi => by
    have h1 := hs.lv (p + i) (by omega)
    have h2 := hs.mv (p + i) (by omega)
    have h3 := hs.bv (gc s.lv (p + i)).r.toNat (by omega)
    rw [Int.toNat_of_nonneg h1.2.1] at h3
    simp only [useAt, Bool.and_eq_true, inR_iff, decide_eq_true_iff]
    rw [gc_part (by omega), rd_part (by omega)]
    exact ⟨hce _ (by omega), h1.2.2, h2, h3⟩
  have hkn : ∀ (k : Int) (b : Nat), (∀ q' : Nat, q' < 4 → rd (ghosts s p q) ((b + q' : Nat) : Int) = rd (ghost s k) (q' : Int)) → known (ghosts s p q) b = true := fun k b hb => by
    have e := ghost_rd s k (ghosts s p q) b hb
    have e0 := congrArg Sd.e e
    have e1 := congrArg Sd.l e
    have e2 := congrArg Sd.m e
    have e3 := congrArg Sd.s e
    simp only [known, Bool.and_eq_true, inR_iff]
    simp only [ghS] at e0 e1 e2 e3
    by_cases hk : 0 ≤ k ∧ k < s.lv.length
    · rw [if_pos hk] at e0 e1 e2 e3
      have a := hs.lv k.toNat (by omega)
      have b' := hs.mv k.toNat (by omega)
      have c := surf_range hs (show k.toNat < s.lv.length by omega)
      rw [e0, e1, e2, e3]
      simp only [leafSd]
      omega
    · rw [if_neg hk] at e0 e1 e2 e3
      rw [e0, e1, e2, e3]
      simp
  simp only [usable, Bool.and_eq_true, decide_eq_true_iff]
  rw [hl, hm, hgl]
  exact ⟨by omega, rfl, rfl, useTo_yes _ 0 (fun i _ hi => huse i (by omega)), hkn ((p : Int) - 1) 0 (fun k hk => by rw [Nat.zero_add, hg]; exact app_rd1 _ _ _ (by rw [ghost_len]; exact hk)), hkn (q : Int) 4 (fun k hk => by rw [hg]; exact app_rd2 _ _ _ _ (ghost_len _ _))⟩
theorem part_loc (h : staOk s.ro s.lv s.ms s.ts s.bd = true) (hpq : p < q) (hq : q ≤ s.lv.length) (t : Int) (i : Nat) (hi : i ≤ q - p) :
    locAt ((s.lv.take q).drop p) ((s.ms.take q).drop p) s.bd (ghosts s p q) t i = flL s t (p + i) := by
  have hs := StF.of h
  rw [locAt, part_sd hpq hq i (by omega), part_sd hpq hq (i + 1) (by omega)]
  by_cases h0 : p + i = 0
  · rw [h0, if_neg (by omega)]
    exact faceV_no (fun e => by have := e.1; simp at this)
  · obtain ⟨k, hk⟩ : ∃ k, p + i = k + 1 := ⟨p + i - 1, by omega⟩
    rw [show p + (i + 1) - 1 = k + 1 by omega, hk, Nat.add_sub_cancel, if_pos (by omega), flL]
    by_cases h1 : k + 1 < s.lv.length
    · rw [if_pos (by omega), fl, faceV_af rfl rfl, afV, fluxS, faceL]
      by_cases ha : actB t (bigMax (gc s.lv k).l (gc s.lv (k + 1)).l) = true
      · rw [if_pos (show actB t (bigMax (leafSd s k).l (leafSd s (k + 1)).l) = true from ha), if_pos ⟨h1, ha⟩]
        rfl
      · rw [if_neg (show ¬ actB t (bigMax (leafSd s k).l (leafSd s (k + 1)).l) = true from ha), if_neg (fun e => ha e.2)]
    · rw [if_neg (by omega), (fl_range hs t k (by omega)).2.2 h1]
      exact faceV_no (fun e => by have := e.2; simp at this)
theorem part_locL (h : staOk s.ro s.lv s.ms s.ts s.bd = true) (hpq : p < q) (hq : q ≤ s.lv.length) (t : Int) : locL ((s.lv.take q).drop p) ((s.ms.take q).drop p) s.bd (ghosts s p q) t = rowOf (q - p + 1) (fun i => flL s t (p + i)) := by
  have hl : ((s.lv.take q).drop p).length = q - p := by rw [List.length_drop, List.length_take]; omega
  rw [locL_yes (part_use h hpq hq), hl]
  exact rowOf_congr fun i hi => part_loc h hpq hq t i (by omega)
theorem part_none (t : Int) (gh : List Int) : locL ((s.lv.take p).drop p) ((s.ms.take p).drop p) s.bd gh t = [] := by
  have hl : ((s.lv.take p).drop p).length = 0 := by rw [List.length_drop, List.length_take]; omega
  rw [locL, usable, hl]
  rfl
end
set_option maxHeartbeats 8000000 in
set_option maxRecDepth 100000 in
theorem law_Local (A : Option Addr) (n c : Nat) (l : List Int) (w : World) (r : ReadsInt w .u8 A n l) (wf : ∀ x ∈ l, 0 ≤ x ∧ x ≤ 255) :
    Calls Try.prog 5 #[.slice A n c] w fun e w' => e = .returned (.bool true) ∧ Bw w w' := by
  have WF := hid wf
  clear wf
  by_cases hb : n ≤ 1048576
  · have t1 : decide (1048576 < (n : Int)) = false := decide_eq_false (by omega)
    have T1 := hid t1
    clear t1
    go_enter Try.func5, Try.ntmps5
    go_wp2_with fail
    refine (toBool (lawbig _ _ _ _) T1.out).mono ?_
    rintro e w1 ⟨rfl, rfl⟩
    go_wp2_with fail
    refine (DrawViews A n c l _ r WF.out hb).mono ?_
    rintro e w1 ⟨v, s, c0, nn, rfl, hs, hc, hl, hn6, hV, hB⟩
    have hlen2 := (cutsOk_facts hc).1
    obtain ⟨m, rfl⟩ : ∃ m, nn = m + 1 := ⟨nn - 1, by omega⟩
    rw [Nat.add_sub_cancel] at hV
    have hm : 1 ≤ m ∧ m ≤ 5 := by omega
    obtain ⟨AV, cV, rfl, _⟩ := hV.reads
    go_wp2_with fail
    refine (DrawPlaces A n c l _ (r.below hB.out) WF.out hb).mono ?_
    rintro e w3 ⟨P, m2, pc, ps, rfl, hp, ⟨rfl, hpb⟩, b3⟩
    have hpl := hp.len
    have hq0 : 0 ≤ rd ps 0 ∧ rd ps 0 < 10000 := hpb _ (by
      rw [show rd ps 0 = rd ps ((0 : Nat) : Int) from rfl, rd_nat, List.getD_eq_getElem?_getD, List.getElem?_eq_getElem (by omega)]
      exact List.getElem_mem (by omega))
    obtain ⟨ap, rfl, hcp⟩ := hp.ri.nat 0 (by omega)
    have hcp0 : w3.cell? ap = some (.int .i64 (rd ps 0)) := hcp
    obtain ⟨p0, hp0⟩ : ∃ p, rd ps 0 = p := ⟨_, rfl⟩
    rw [hp0] at hcp0 hq0
    obtain ⟨t, ht, ht0, ht1⟩ := rem_natL hq0.1 (show (0 : Int) < 32 by omega)
    have hf := StF.of hs.ok
    have hpl2 : (parts s c0).length = m := by rw [parts_length]; omega
    obtain ⟨v1, v2⟩ := stv_partsL hs.ok hc t
    have hz1 := parts_szL s c0 hf m (by omega)
    have htick : tickS s t = stepS s t := if_pos ht0
    rw [htick] at v2
    have hsl : (stvL (parts s c0) t).length = m := by rw [v2, parts_length]; omega
    have HS := hid hs.ok
    have HN1 := hid (show m + szTo (parts s c0) m ≤ 1048576 by omega)
    have HC := hid hc
    have HL := hid hl
    have HST := hid (And.intro v2 hsl)
    have hV3 := hV.to b3
    have hB3 := hB.trans b3
    clear hcp hpb hp hpl hp0 hs hc hf hpl2 v1 v2 hz1 htick hsl hV hB b3 hl
    go_wp2_with fail
    refine (impl_StepViews AV m cV (parts s c0) t _ hV3.rd HN1.out (by omega)).mono ?_
    rintro e w4 ⟨vw, rfl, hW, b4⟩
    rw [HST.out.2, HST.out.1] at hW
    obtain ⟨AW, cW, rfl, _⟩ := hW.reads
    have HVR := hid (hV3.rd.to b4)
    have HWR := hid hW.rd
    have HB4 := hid (hB3.trans b4)
    have tm : ((m : Int) != (m : Int)) = false := by simp
    clear hV3 hW hB3 b4 hcp0 hq0
    go_wp2
    go_loopw [7] (fun v7 wr => ∃ j : Nat, j ≤ m ∧ v7 = .int .i64 j ∧ Hid (Bw w4 wr)) (fun v7 _ => m - (intOf v7).toNat)
    case atStart => exact ⟨0, by omega, rfl, hid (Bw.refl _)⟩
    case round =>
      obtain ⟨j, hj, rfl, hD⟩ := hrel
      by_cases hlt : j < m
      · have u1 : decide ((j : Int) < (m : Int)) = true := decide_eq_true (by omega)
        have e1 : IntKind.i64.wrap ((j : Int) + 1) = (j : Int) + 1 := i64w (by omega) (by omega)
        have i0 : (0 : Int) ≤ (j : Int) := by clear e1; omega
        have i1 : (j : Int) < (m : Int) := by clear e1; omega
        have hkk := hid (show j + 1 ≤ m ∧ m - (j + 1) < m - j by clear e1; omega)
        obtain ⟨av, rfl, Al, nl, cl, Am, nm, cm, At, nt, ct_, Ab, nb, cb, Ag, ng, cg, x0, x1, x2, x3, x4, x5, x6, hcc, hv⟩ := (HVR.out.to hD.out).nat j hlt
        obtain ⟨aw, rfl, Bl, kl, dl, Bm, km, dm, Bt, kt, dt, Bb, kb, db, Bg, kg, dg, z0, z1, z2, z3, z4, z5, z6, _, hu⟩ := (HWR.out.to hD.out).nat j hlt
        have hgv := parts_gv s c0 (j := j) (by rw [HL.out]; clear e1; omega)
        have hgw := parts_gv (stepS s t) c0 (j := j) (by rw [HL.out]; clear e1; omega)
        have hct := (ct_facts HC.out).2.2.2 j (by rw [HL.out]; clear e1; omega)
        obtain ⟨p, hp⟩ : ∃ p, ct c0 j = p := ⟨_, rfl⟩
        obtain ⟨q, hq⟩ : ∃ q, ct c0 (j + 1) = q := ⟨_, rfl⟩
        rw [hp, hq] at hgv hgw hct
        rw [hgv] at hv x0 x1
        rw [hgw] at hu
        have hf := StF.of HS.out
        have hn128 := hf.n
        have rl : IdR wr Al nl ((s.lv.take q).drop p) := FR.id hv.l
        have rm : RI wr Am nm ((s.ms.take q).drop p) := hv.m
        have rb : RI wr Ab nb s.bd := hv.b
        have rg : RI wr Ag ng (ghosts s p q) := hv.g
        have rw_ : RI wr Bm km (((stepS s t).ms.take q).drop p) := hu.m
        have rwl : IdR wr Bl kl ((s.lv.take q).drop p) := FR.id hu.l
        have hnl : nl = q - p := by rw [← rl.len, List.length_drop, List.length_take]; clear e1; omega
        have hnm : nm = q - p := by rw [← rm.len, List.length_drop, List.length_take, hf.ms]; clear e1; omega
        have hkm : km = q - p := by rw [← rw_.len, List.length_drop, List.length_take, (stepS_len s t).1]; clear e1; omega
        have hkl : kl = q - p := by rw [← rwl.len, List.length_drop, List.length_take]; clear e1; omega
        have HG := hid hcc
        have HPQ := hid hct
        have HP := hid (And.intro hp hq)
        subst hnl hnm
        clear hgv hgw hv hu hcc hp hq
        have HX0 := hid x0
        have hx0 : wr.cell? (av.add (j * 7)) = some (.int .i64 s.ro) := x0
        have hx1 : wr.cell? ⟨(av.add (j * 7)).block, (av.add (j * 7)).off + 1, none⟩ = some (.int .i64 (p : Int)) := x1
        clear x0 x1 HX0 z0 z1 z4 z5 z6
        by_cases h0 : p = q
        · have HLL := hid (show locL ((s.lv.take q).drop p) ((s.ms.take q).drop p) s.bd (ghosts s p q) t = [] by rw [h0]; exact part_none t _)
          have hz : q - p = 0 := by clear e1; omega
          rw [hz] at rl rm x2 x3 hkl hkm
          subst hkl hkm
          clear hz h0 hf rw_ rwl hct
          go_wp2_with fail
          refine (impl_LocalFluxes s.ro (p : Int) Al Am At Ab Ag 0 0 nt nb ng cl cm ct_ cb cg _ _ s.bd _ t _ rl rm rb rg HG.out.2.2.2.2 (by omega) (by clear e1; omega)).mono ?_
          rintro e w5 ⟨vf, rfl, hF, b5⟩
          rw [HLL.out] at hF
          have hF0 : OI w5 wr.heap.size vf 0 [] := hF
          obtain ⟨AF, cF, rfl, _⟩ := hF0.reads
          have hD5 := hid (hD.out.trans b5)
          replace x2 := pw_cell_below b5.out x2
          replace z2 := pw_cell_below b5.out z2
          clear hF hF0 b5 hD hx0 hx1 x3 x4 x5 x6 z3
          go_wp2
          go_roundw
          case rel => exact ⟨j + 1, hkk.out.1, by go_num, hD5⟩
          case measure => simp [intOf]; clear e1; omega
        · have hpq : p < q := by clear e1; omega
          have HLL := hid (part_locL HS.out hpq hct.2 t)
          obtain ⟨K, hK⟩ : ∃ K, q - p = K := ⟨_, rfl⟩
          have hK1 : 1 ≤ K ∧ K ≤ 128 := by clear e1; omega
          rw [hK] at rl rm x2 x3 hkl hkm HLL
          replace hkl := hkl.symm
          replace hkm := hkm.symm
          subst hkl hkm
          have HK := hid hK
          have HKB := hid (show K ≤ 1048576 ∧ t ≤ 9223372036854775807 from ⟨by clear e1; omega, by clear e1; omega⟩)
          clear hK rwl
          have HCALL := hid (impl_LocalFluxes s.ro (p : Int) Al Am At Ab Ag K K nt nb ng cl cm ct_ cb cg _ _ s.bd _ t _ rl rm rb rg HG.out.2.2.2.2 HKB.out.1 HKB.out.2)
          go_wp2_with fail
          refine HCALL.out.mono ?_
          rintro e w5 ⟨vf, rfl, hF, b5⟩
          rw [HLL.out, rowOf_len] at hF
          obtain ⟨AF, cF, rfl, rF⟩ := hF.reads
          have hD5 := hid (hD.out.trans b5)
          have HRM := hid (rm.to b5)
          have HRW := hid (rw_.to b5)
          have HRF := hid rF
          replace x2 := pw_cell_below b5.out x2
          replace x3 := pw_cell_below b5.out x3
          replace z3 := pw_cell_below b5.out z3
          have u3 : ((K : Int) == 0) = false := by simp; clear e1; omega
          have u4 : ((K : Int) + 1 != (K : Int) + 1) = false := by simp
          have u5 : ((K : Int) != (K : Int)) = false := by simp
          have eK : IntKind.i64.wrap ((K : Int) + 1) = (K : Int) + 1 := i64w (by clear e1; omega) (by clear e1; omega)
          have K_x3 := hid x3
          have K_z3 := hid z3
          clear hF b5 hD hx0 hx1 x4 x5 x6 z2 rl rm rb rg rw_ rF h0
          go_upto_region 16 with fail
          go_quiet (fail)
          have bQ : Bw w5 (w5.drewN nq) := Bw.drawn ⟨⟨nq, rfl⟩⟩
          have hQ0 := hid bQ
          clear x2 x3 z3 bQ
          go_upto_region 18 with fail
          clear u4
          generalize (w5.drewN nq) = w6 at *
          have x3 := pw_cell_below hQ0.out.out K_x3.out
          go_wp2
          clear x3
          go_loopw [9] (fun v9 wr => ∃ i : Nat, i ≤ K ∧ v9 = .int .i64 i ∧ Hid (Bw w5 wr)) (fun v9 _ => K - (intOf v9).toNat)
          case atStart => exact ⟨0, by omega, rfl, hQ0⟩
          case round =>
            obtain ⟨i, hi, rfl, hX⟩ := hrel
            have x3 := pw_cell_below hX.out.out K_x3.out
            by_cases hlt2 : i < K
            · have w1_ : decide ((i : Int) < (K : Int)) = true := decide_eq_true (by clear e1 eK; omega)
              have z3 := pw_cell_below hX.out.out K_z3.out
              obtain ⟨am, rfl, xm⟩ := (HRM.out.to hX.out).nat i hlt2
              obtain ⟨bm, rfl, xw⟩ := (HRW.out.to hX.out).nat i hlt2
              obtain ⟨af, rfl, f0⟩ := (HRF.out.to hX.out).nat i (by clear e1 eK; omega)
              obtain ⟨_, ea, f1⟩ := (HRF.out.to hX.out).nat (i + 1) (by clear e1 eK; omega)
              obtain rfl := Option.some.inj ea
              rw [add_pos _ _ (by clear e1 eK; omega)] at f1
              have hpi : p + i < q := by have := HK.out; clear e1 eK; omega
              have hpn : p + i < s.lv.length := by have := HPQ.out.2; clear e1 eK; omega
              rw [rd_part hpi] at xm
              rw [rd_part hpi, show rd (stepS s t).ms ((p + i : Nat) : Int) = stM s t (p + i) from rd_rowOf (stM s t) hpn] at xw
              rw [rd_rowOf _ (by clear e1 eK; omega)] at f0 f1
              have hM : stM s t (p + i) = rd s.ms ((p + i : Nat) : Int) - fl s t (p + i) + flL s t (p + i) := rfl
              have hfe : flL s t (p + (i + 1)) = fl s t (p + i) := rfl
              rw [hfe] at f1
              have hmv := hf.mv (p + i) hpn
              have hb1 := fl_bd hf t (p + i) hpn
              have hb2 : -10000000 ≤ flL s t (p + i) ∧ flL s t (p + i) ≤ 10000000 := by
                cases hk : p + i with
                | zero => simp [flL]
                | succ k => exact fl_bd hf t k (by clear e1 eK; omega)
              obtain ⟨a, ha⟩ : ∃ a, rd s.ms ((p + i : Nat) : Int) = a := ⟨_, rfl⟩
              obtain ⟨b, hb_⟩ : ∃ b, flL s t (p + i) = b := ⟨_, rfl⟩
              obtain ⟨d, hd_⟩ : ∃ d, fl s t (p + i) = d := ⟨_, rfl⟩
              obtain ⟨y, hy⟩ : ∃ y, stM s t (p + i) = y := ⟨_, rfl⟩
              rw [ha, hb_, hd_, hy] at hM
              rw [ha] at xm hmv
              rw [hb_] at f0 hb2
              rw [hd_] at f1 hb1
              rw [hy] at xw
              have e3 : IntKind.i64.wrap (a + b) = a + b := i64w (by clear e1 eK; omega) (by clear e1 eK; omega)
              have e4 : IntKind.i64.wrap (a + b - d) = y := by rw [hM]; exact (i64w (by clear e1 eK e3; omega) (by clear e1 eK e3; omega)).trans (by clear e1 eK e3; omega)
              have e5 : IntKind.i64.wrap ((i : Int) + 1) = (i : Int) + 1 := i64w (by clear e1 eK e3 e4; omega) (by clear e1 eK e3 e4; omega)
              have j0 : (0 : Int) ≤ (i : Int) := by clear e1 eK e3 e4 e5; omega
              have j1 : (i : Int) < (K : Int) := by clear e1 eK e3 e4 e5; omega
              have j2 : (0 : Int) ≤ (i : Int) + 1 := by clear e1 eK e3 e4 e5; omega
              have j3 : (i : Int) + 1 < (K : Int) + 1 := by clear e1 eK e3 e4 e5; omega
              have j4 : (i : Int) < (K : Int) + 1 := by clear e1 eK e3 e4 e5; omega
              have u6 : (y != y) = false := by simp
              have hk2 := hid (show i + 1 ≤ K ∧ K - (i + 1) < K - i by clear e1 eK e3 e4 e5; omega)
              clear ha hb_ hd_ hy hM hfe ea
              go_upto_region 21 with fail
              go_quiet (fail)
              have bQ : Bw wr (wr.drewN nq) := Bw.drawn ⟨⟨nq, rfl⟩⟩
              have hX2 := hid (hX.out.trans bQ)
              clear xm xw f0 f1 x3 z3 hX bQ e3 e4
              go_wp2
              go_roundw
              case rel => exact ⟨i + 1, hk2.out.1, by go_num, hX2⟩
              case measure => simp [intOf]; clear e1 eK e5; omega
            · obtain rfl : K = i := by clear e1 eK; omega
              have w1_ : decide ((K : Int) < (K : Int)) = false := decide_eq_false (by clear e1 eK; omega)
              have hD6 := hid (hD5.out.trans hX.out)
              go_wp2
              go_roundw
              case rel => exact ⟨j + 1, hkk.out.1, by go_num, hD6⟩
              case measure => simp [intOf]; clear e1 eK; omega
      · obtain rfl : m = j := by omega
        have u1 : decide ((m : Int) < (m : Int)) = false := decide_eq_false (by omega)
        have hB5 := HB4.out.trans hD.out
        go_wp2
        go_ret
        exact ⟨rfl, hB5⟩
  · have t1 : decide (1048576 < (n : Int)) = true := decide_eq_true (by omega)
    have T1 := hid t1
    clear t1
    go_enter Try.func5, Try.ntmps5
    go_wp2_with fail
    refine (toBool (lawbig _ _ _ _) T1.out).mono ?_
    rintro e w1 ⟨rfl, rfl⟩
    go_wp2
    go_ret
    exact ⟨rfl, Bw.refl _⟩
end Go.Proofs.Ytaemkneppphkmaa.U
