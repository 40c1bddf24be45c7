
/- The law's marks in views. -/
import Derived.Test.YtcgikbidgknkpaaVm
set_option linter.unusedVariables false
set_option linter.unusedSimpArgs false
namespace Go.Proofs.Ytcgikbidgknkpaa.U
open Go.RowKit Go.Lib Go.Proofs.YtcgikbidgknkpaaW.PrintWords

theorem markRowI (v : Value) (n : Nat) (F : List Int) (a r : Int) (w : World) (lo hi : Nat) (h : Rw w lo hi 84 3 v n F) (hn : n ≤ 1048576) (h0 : 0 ≤ a) (ha : a ≤ 1000000000000) (hr : a + (n * 3 : Nat) = r) :
    Calls Try.prog 41 #[v, .int .i64 a] w fun e w' => e = .returned (.int .i64 r) ∧ Rw w' lo hi 84 3 v n (iota (n * 3) a) ∧ w.grownBy w' v.ownBlock := by
  subst hr
  refine (markIdS v n F a w lo h.o hn h0 ha).mono ?_
  rintro e w' ⟨rfl, o, g⟩
  exact ⟨rfl, ⟨o, h.b⟩, g⟩
theorem markRowN (v : Value) (n : Nat) (F : List Int) (a r : Int) (w : World) (lo hi : Nat) (h : Rw w lo hi 3 1 v n F) (hn : n ≤ 1048576) (h0 : 0 ≤ a) (ha : a ≤ 1000000000000) (hr : a + (n : Nat) = r) :
    Calls Try.prog 23 #[v, .int .i64 a] w fun e w' => e = .returned (.int .i64 r) ∧ Rw w' lo hi 3 1 v n (iota n a) ∧ w.grownBy w' v.ownBlock := by
  subst hr
  refine (markIntS v n F a w lo h.oi hn h0 ha).mono ?_
  rintro e w' ⟨rfl, o, g⟩
  exact ⟨rfl, ⟨⟨o.out⟩, h.b⟩, g⟩
theorem Rw.chg' {w w' : World} {lo hi t k n : Nat} {v : Value} {F F' : List Int} (_ : Rw w' lo hi t k v n F') (h : Rw w lo hi t k v n F) (hg : w.grownBy w' v.ownBlock) : Wi w w' lo hi := h.chg hg
/-- a view's marks, from a on -/
def mkV (x : Vf) (a : Int) : Vf := ⟨a, a + 1, iota x.lf.length (a + 2), iota x.ms.length (a + 2 + x.lf.length), iota x.ts.length (a + 2 + x.lf.length + x.ms.length), iota x.bd.length (a + 2 + x.lf.length + x.ms.length + x.ts.length), iota x.gh.length (a + 2 + x.lf.length + x.ms.length + x.ts.length + x.bd.length)⟩
def msz (x : Vf) : Nat := 2 + x.lf.length + x.ms.length + x.ts.length + x.bd.length + x.gh.length
def offs (L : List Vf) : Nat → Nat
  | 0 => 0
  | j + 1 => offs L j + msz (gv L j)
/-- the views, marked -/
def mvL (L : List Vf) (a : Int) (i : Nat) : Vf := mkV (gv L i) (a + offs L i)
def markL (L : List Vf) (a : Int) : List Vf := (List.range L.length).map (mvL L a)
theorem markL_length (L : List Vf) (a : Int) : (markL L a).length = L.length := by simp [markL]
theorem markL_at (L : List Vf) (a : Int) (i : Nat) (h : i < L.length) : gv (markL L a) i = mvL L a i := by
  rw [gv_at (by rw [markL_length]; exact h)]
  simp [markL]
/-- no row is long -/
structure Short (L : List Vf) : Prop where mk :: (out : ∀ i, i < L.length → (gv L i).lf.length ≤ 3145728 ∧ (gv L i).ms.length ≤ 1048576 ∧ (gv L i).ts.length ≤ 1048576 ∧ (gv L i).bd.length ≤ 1048576 ∧ (gv L i).gh.length ≤ 1048576)
theorem offs_mono (L : List Vf) : ∀ (n j : Nat), j ≤ n → offs L j ≤ offs L n
  | 0, j, h => by rw [show j = 0 by omega]; exact Nat.le_refl _
  | n + 1, j, h => by
    rcases Nat.lt_or_ge j (n + 1) with h1 | h1
    · exact Nat.le_trans (offs_mono L n j (by omega)) (by rw [offs]; omega)
    · rw [show j = n + 1 by omega]; exact Nat.le_refl _
theorem set2_far (cs : Array Value) (p : Nat) (u0 u1 : Value) (f : Nat) (h : 2 ≤ f) : ((cs.setIfInBounds p u0).setIfInBounds (p + 1) u1)[p + f]? = cs[p + f]? := by
  simp only [Array.getElem?_setIfInBounds]
  rw [if_neg (by omega), if_neg (by omega)]
theorem set2_at (cs : Array Value) (p : Nat) (u0 u1 : Value) (h : p + 2 ≤ cs.size) : ((cs.setIfInBounds p u0).setIfInBounds (p + 1) u1)[p + 0]? = some u0 ∧ ((cs.setIfInBounds p u0).setIfInBounds (p + 1) u1)[p + 1]? = some u1 := by
  simp only [Array.getElem?_setIfInBounds, Array.size_setIfInBounds, Nat.add_zero]
  refine ⟨?_, ?_⟩
  · rw [if_neg (by omega), if_pos trivial, if_pos (by omega)]
  · rw [if_pos trivial, if_pos (by omega)]
/-- the first k views are marked -/
def VMk (w : World) (lo hi : Nat) (A : Option Addr) (n k : Nat) (L : List Vf) (a : Int) : Prop := 0 < n → ∃ g cs b e, A = some ⟨g, 0, none⟩ ∧ VB w lo hi g n (fun i => if i < k then mvL L a i else gv L i) cs b e
set_option maxHeartbeats 8000000 in
set_option maxRecDepth 100000 in
theorem markViewS (v : Value) (n : Nat) (L : List Vf) (a : Int) (w : World) (lo hi : Nat) (h : VwO w lo hi v n L) (hs : Short L) (h0 : 0 ≤ a) (ha : a ≤ 1000000000) (ho : offs L n ≤ 1000000000) :
    Calls Try.prog 14 #[v, .int .i64 a] w fun e w' => e = .returned (.int .i64 (a + offs L n)) ∧ VwO w' lo hi v n (markL L a) ∧ Wi w w' lo hi := by
  obtain ⟨A, c, rfl, hl, hm, hn⟩ := h
  have HL := hid hl
  have HS := hid hs
  have HO := hid ho
  have H0 : Hid (VMk w lo hi A n 0 L a) := hid fun h0 => by
    obtain ⟨g, cs, b, e, ea, hv⟩ := hn h0
    exact ⟨g, cs, b, e, ea, by simpa using hv⟩
  clear hn hl hs ho
  go_enter Try.func14, Try.ntmps14
  go_wp2
  go_loopw [1, 5] (fun v1 v5 wr => ∃ (k : Nat) (bb : Int), k ≤ n ∧ (0 ≤ bb ∧ bb ≤ 2000000000) ∧ v1 = .int .i64 bb ∧ v5 = .int .i64 k ∧ Hid (bb = a + offs L k) ∧ Hid (VMk wr lo hi A n k L a) ∧ Hid (Wi w wr lo hi)) (fun _ v5 _ => n - (intOf v5).toNat)
  case atStart => exact ⟨0, a, by omega, by omega, rfl, rfl, hid (by simp [offs]), H0, hid (Wi.refl _ _ _)⟩
  case round =>
    obtain ⟨k, bb, hk, hbb, rfl, rfl, hE, hV, hW⟩ := hrel
    by_cases hlt : k < n
    · have t1 : decide ((k : Int) < (n : Int)) = true := decide_eq_true (by omega)
      obtain ⟨g, cs, b, e, rfl, hv⟩ := hV.out (by omega)
      have hiv := hv.iv k hlt
      have hgi : ¬ (b k ≤ g ∧ g < e k) := hiv.2.2.2
      obtain ⟨vl, vm, vt, vb, vg, nl, nm, nt, nb, ng, c0, c1, c2, c3, c4, c5, c6, R1, R2, R3, R4, R5, ap⟩ := hv.el k hlt
      rw [if_neg (by omega)] at c0 c1 R1 R2 R3 R4 R5
      obtain ⟨ap_lm, ap_lt, ap_lb, ap_lg, ap_mt, ap_mb, ap_mg, ap_tb, ap_tg, ap_bg⟩ := ap
      obtain ⟨x, hx⟩ : ∃ x, gv L k = x := ⟨_, rfl⟩
      rw [hx] at c0 c1 R1 R2 R3 R4 R5
      have hshort := HS.out.out k (by rw [HL.out]; exact hlt)
      rw [hx] at hshort
      have l1 := R1.len
      have l2 := R2.len
      have l3 := R3.len
      have l4 := R4.len
      have l5 := R5.len
      have hll : nl ≤ 1048576 := by omega
      have hlm : nm ≤ 1048576 := by omega
      have hlt' : nt ≤ 1048576 := by omega
      have hlb : nb ≤ 1048576 := by omega
      have hlg : ng ≤ 1048576 := by omega
      have hsz : msz x = 2 + nl * 3 + nm + nt + nb + ng := by rw [msz]; omega
      have hoff : offs L (k + 1) = offs L k + msz x := by rw [offs, hx]
      have hle := offs_mono L n (k + 1) (by omega)
      have hEE := hE.out
      have hHO := HO.out
      obtain ⟨p0, e0⟩ : ∃ p0, Hid (bb + 1 + 1 = p0) := ⟨_, hid rfl⟩
      obtain ⟨p1, e1⟩ : ∃ p1, Hid (p0 + (nl * 3 : Nat) = p1) := ⟨_, hid rfl⟩
      obtain ⟨p2, e2⟩ : ∃ p2, Hid (p1 + (nm : Nat) = p2) := ⟨_, hid rfl⟩
      obtain ⟨p3, e3⟩ : ∃ p3, Hid (p2 + (nt : Nat) = p3) := ⟨_, hid rfl⟩
      obtain ⟨p4, e4⟩ : ∃ p4, Hid (p3 + (nb : Nat) = p4) := ⟨_, hid rfl⟩
      obtain ⟨p5, e5⟩ : ∃ p5, Hid (p4 + (ng : Nat) = p5) := ⟨_, hid rfl⟩
      have hp : (0 ≤ p0 ∧ p0 ≤ 3000000000) ∧ (0 ≤ p1 ∧ p1 ≤ 3000000000) ∧ (0 ≤ p2 ∧ p2 ≤ 3000000000) ∧ (0 ≤ p3 ∧ p3 ≤ 3000000000) ∧ (0 ≤ p4 ∧ p4 ≤ 3000000000) ∧ (0 ≤ p5 ∧ p5 ≤ 2000000000) ∧ p5 = a + offs L (k + 1) := by
        have := e0.out; have := e1.out; have := e2.out; have := e3.out; have := e4.out; have := e5.out
        omega
      have hmv : Hid (mvL L a k = ⟨bb, bb + 1, iota (nl * 3) p0, iota nm p1, iota nt p2, iota nb p3, iota ng p4⟩) := hid (by
        have q0 := e0.out; have q1 := e1.out; have q2 := e2.out; have q3 := e3.out; have q4 := e4.out
        rw [mvL, hx, mkV, ← hEE]
        simp only [Vf.mk.injEq]
        rw [show x.lf.length = nl * 3 by omega, show x.ms.length = nm by omega, show x.ts.length = nt by omega, show x.bd.length = nb by omega, show x.gh.length = ng by omega]
        refine ⟨trivial, trivial, ?_, ?_, ?_, ?_, ?_⟩ <;> congr 1 <;> omega)
      have HP5 := hid hp.2.2.2.2.2.2
      have hq5 := hp.2.2.2.2.2.1
      have hpp := And.intro hp.1 (And.intro hp.2.1 (And.intro hp.2.2.1 (And.intro hp.2.2.2.1 hp.2.2.2.2.1)))
      clear hp hsz hoff hle hEE hHO l1 l2 l3 l4 l5 hshort hE
      obtain ⟨Xl, yl, rfl, _, _⟩ := R1.reads
      obtain ⟨Xm, ym, rfl, _, _⟩ := R2.reads
      obtain ⟨Xt, yt, rfl, _, _⟩ := R3.reads
      obtain ⟨Xb, yb, rfl, _, _⟩ := R4.reads
      obtain ⟨Xg, yg, rfl, _, _⟩ := R5.reads
      have k0 := (blk_cell hv.blk (k * 7)).trans c0
      have f0 := blk_frozen hv.blk (k * 7)
      have k1 := (blk_cell hv.blk (k * 7 + 1)).trans c1
      have f1 := blk_frozen hv.blk (k * 7 + 1)
      have hC2 := (blk_cell hv.blk (k * 7 + 2)).trans c2
      have hC3 := (blk_cell hv.blk (k * 7 + 3)).trans c3
      have hC4 := (blk_cell hv.blk (k * 7 + 4)).trans c4
      have hC5 := (blk_cell hv.blk (k * 7 + 5)).trans c5
      have hC6 := (blk_cell hv.blk (k * 7 + 6)).trans c6
      have cs1 := (Wi.set wr g (k * 7) (.int .i64 bb)).trans (Wi.set _ g (k * 7 + 1) (.int .i64 (bb + 1)))
      have CB := blk_set (blk_set hv.blk (k * 7) (.int .i64 bb)) (k * 7 + 1) (.int .i64 (bb + 1))
      have CW := hW.out.trans (cs1.mono (lo' := lo) (hi' := hi) hv.ing.1 (by have := hv.ing.2; omega))
      replace hC2 := (blk_cell CB (k * 7 + 2)).trans ((set2_far cs (k * 7) _ _ 2 (by omega)).trans c2)
      replace hC3 := (blk_cell CB (k * 7 + 3)).trans ((set2_far cs (k * 7) _ _ 3 (by omega)).trans c3)
      replace hC4 := (blk_cell CB (k * 7 + 4)).trans ((set2_far cs (k * 7) _ _ 4 (by omega)).trans c4)
      replace hC5 := (blk_cell CB (k * 7 + 5)).trans ((set2_far cs (k * 7) _ _ 5 (by omega)).trans c5)
      replace hC6 := (blk_cell CB (k * 7 + 6)).trans ((set2_far cs (k * 7) _ _ 6 (by omega)).trans c6)
      replace R1 := R1.wi cs1 (by omega)
      replace R2 := R2.wi cs1 (by omega)
      replace R3 := R3.wi cs1 (by omega)
      replace R4 := R4.wi cs1 (by omega)
      replace R5 := R5.wi cs1 (by omega)
      have E0 := e0.out
      have HVV := hid hv
      have HHV := hid (And.intro c2 (And.intro c3 (And.intro c4 (And.intro c5 c6))))
      clear hv c0 c1 c2 c3 c4 c5 c6 hV H0
      go_wp2_with fail
      obtain ⟨w2, hw2⟩ : ∃ w2, (wr.setCell ⟨g, k * 7, none⟩ (.int .i64 bb)).setCell ⟨g, k * 7 + 1, none⟩ (.int .i64 (bb + 1)) = w2 := ⟨_, rfl⟩
      rw [hw2] at R1 R2 R3 R4 R5 CW CB hC2 hC3 hC4 hC5 hC6 cs1
      simp only [hw2]
      have HC1 := hid cs1
      clear cs1
      refine (markRowI (.slice Xl nl yl) nl _ p0 p1 _ (b k) (e k) R1 hll (by omega) (by omega) e1.out).mono ?_
      rintro e_ w3 ⟨rfl, S1, hg⟩
      have cg := S1.chg' R1 hg
      replace R2 := R2.grown hg ap_lm.symm
      replace R3 := R3.grown hg ap_lt.symm
      replace R4 := R4.grown hg ap_lb.symm
      replace R5 := R5.grown hg ap_lg.symm
      replace hC3 := cell_wi cg hC3 hgi
      replace hC4 := cell_wi cg hC4 hgi
      replace hC5 := cell_wi cg hC5 hgi
      replace hC6 := cell_wi cg hC6 hgi
      replace CW := CW.trans (cg.mono hiv.1 hiv.2.2.1)
      replace CB := (cg.block g (blk_lt CB) hgi).trans CB
      have CK := cg
      clear hg cg R1
      go_wp2_with fail
      refine (markRowN (.slice Xm nm ym) nm _ p1 p2 _ (b k) (e k) R2 hlm (by omega) (by omega) e2.out).mono ?_
      rintro e_ w3 ⟨rfl, S2, hg⟩
      have cg := S2.chg' R2 hg
      replace S1 := S1.grown hg ap_lm
      replace R3 := R3.grown hg ap_mt.symm
      replace R4 := R4.grown hg ap_mb.symm
      replace R5 := R5.grown hg ap_mg.symm
      replace hC4 := cell_wi cg hC4 hgi
      replace hC5 := cell_wi cg hC5 hgi
      replace hC6 := cell_wi cg hC6 hgi
      replace CW := CW.trans (cg.mono hiv.1 hiv.2.2.1)
      replace CB := (cg.block g (blk_lt CB) hgi).trans CB
      replace CK := CK.trans cg
      clear hg cg R2
      go_wp2_with fail
      refine (markRowN (.slice Xt nt yt) nt _ p2 p3 _ (b k) (e k) R3 hlt' (by omega) (by omega) e3.out).mono ?_
      rintro e_ w3 ⟨rfl, S3, hg⟩
      have cg := S3.chg' R3 hg
      replace S1 := S1.grown hg ap_lt
      replace S2 := S2.grown hg ap_mt
      replace R4 := R4.grown hg ap_tb.symm
      replace R5 := R5.grown hg ap_tg.symm
      replace hC5 := cell_wi cg hC5 hgi
      replace hC6 := cell_wi cg hC6 hgi
      replace CW := CW.trans (cg.mono hiv.1 hiv.2.2.1)
      replace CB := (cg.block g (blk_lt CB) hgi).trans CB
      replace CK := CK.trans cg
      clear hg cg R3
      go_wp2_with fail
      refine (markRowN (.slice Xb nb yb) nb _ p3 p4 _ (b k) (e k) R4 hlb (by omega) (by omega) e4.out).mono ?_
      rintro e_ w3 ⟨rfl, S4, hg⟩
      have cg := S4.chg' R4 hg
      replace S1 := S1.grown hg ap_lb
      replace S2 := S2.grown hg ap_mb
      replace S3 := S3.grown hg ap_tb
      replace R5 := R5.grown hg ap_bg.symm
      replace hC6 := cell_wi cg hC6 hgi
      replace CW := CW.trans (cg.mono hiv.1 hiv.2.2.1)
      replace CB := (cg.block g (blk_lt CB) hgi).trans CB
      replace CK := CK.trans cg
      clear hg cg R4
      go_wp2_with fail
      refine (markRowN (.slice Xg ng yg) ng _ p4 p5 _ (b k) (e k) R5 hlg (by omega) (by omega) e5.out).mono ?_
      rintro e_ w3 ⟨rfl, S5, hg⟩
      have cg := S5.chg' R5 hg
      replace S1 := S1.grown hg ap_lg
      replace S2 := S2.grown hg ap_mg
      replace S3 := S3.grown hg ap_tg
      replace S4 := S4.grown hg ap_bg
      replace CW := CW.trans (cg.mono hiv.1 hiv.2.2.1)
      replace CB := (cg.block g (blk_lt CB) hgi).trans CB
      replace CK := CK.trans cg
      clear hg cg R5
      have hvv := HVV.out
      obtain ⟨c2, c3, c4, c5, c6⟩ := HHV.out
      have HNEW : Hid (VMk w3 lo hi (some ⟨g, 0, none⟩) n (k + 1) L a) := hid fun _ => by
        refine ⟨g, _, b, e, rfl, CB, hvv.ing, by simp only [Array.size_setIfInBounds]; exact hvv.size, hvv.iv, hvv.sep, fun i hi_ => ?_⟩
        by_cases hik : i = k
        · subst hik
          rw [if_pos (by omega), hmv.out]
          exact ⟨_, _, _, _, _, nl, nm, nt, nb, ng, (set2_at cs (i * 7) _ _ (by have := hvv.size; omega)).1, (set2_at cs (i * 7) _ _ (by have := hvv.size; omega)).2, (set2_far cs (i * 7) _ _ 2 (by omega)).trans c2, (set2_far cs (i * 7) _ _ 3 (by omega)).trans c3, (set2_far cs (i * 7) _ _ 4 (by omega)).trans c4, (set2_far cs (i * 7) _ _ 5 (by omega)).trans c5, (set2_far cs (i * 7) _ _ 6 (by omega)).trans c6, S1, S2, S3, S4, S5, ap_lm, ap_lt, ap_lb, ap_lg, ap_mt, ap_mb, ap_mg, ap_tb, ap_tg, ap_bg⟩
        · have hII := hvv.iv i hi_
          have hsep : e i ≤ b k ∨ e k ≤ b i := by
            rcases Nat.lt_or_ge i k with h | h
            · exact .inl (hvv.sep i k h hlt)
            · exact .inr (hvv.sep k i (by omega) hi_)
          have h1 := (((hvv.el i hi_).wi HC1.out (by omega)).wi CK hsep)
          rw [show (if i < k + 1 then mvL L a i else gv L i) = (if i < k then mvL L a i else gv L i) by by_cases h : i < k; rw [if_pos h, if_pos (by omega)]; rw [if_neg h, if_neg (by omega)]]
          refine h1.cells fun f hf => ?_
          simp only [Array.getElem?_setIfInBounds]
          rw [if_neg (by omega), if_neg (by omega)]
      have HCW := hid CW
      clear CW CB CK S1 S2 S3 S4 S5 HVV HC1 HHV hvv c2 c3 c4 c5 c6 hW
      go_wp2
      go_roundw
      case rel => exact ⟨k + 1, p5, by omega, hq5, rfl, by go_num, HP5, HNEW, HCW⟩
      case measure => simp [intOf]; omega
    · obtain rfl : k = n := by omega
      have t1 : decide ((k : Int) < (k : Int)) = false := decide_eq_false (by omega)
      go_wp2
      go_ret
      refine ⟨ret_int hE.out, ⟨A, c, rfl, by rw [markL_length, HL.out], hm, fun h0 => ?_⟩, hW.out⟩
      obtain ⟨g, cs, b, e, ea, hv⟩ := hV.out h0
      refine ⟨g, cs, b, e, ea, hv.blk, hv.ing, hv.size, hv.iv, hv.sep, fun i hi_ => ?_⟩
      have := hv.el i hi_
      rw [if_pos hi_] at this
      rw [markL_at L a i (by rw [HL.out]; exact hi_)]
      exact this
end Go.Proofs.Ytcgikbidgknkpaa.U
