
/- slices.Insert of one packet; what Deliver computes; take. -/
import Derived.Test.YtcdibjneoemidaaKe
import Derived.Test.YtcdibjneoemidaaKc
set_option linter.unusedVariables false
set_option linter.unusedSimpArgs false
namespace Go.Proofs.Ytcdibjneoemidaa.U
open Go.RowKit Go.Lib Go.Proofs.YtcdibjneoemidaaW.PrintWords

open Go.Proofs.YtcdibjneoemidaaW.PrintLast Go.Proofs.YtcdibjneoemidaaW.PrintMore
set_option maxHeartbeats 4000000 in
set_option maxRecDepth 100000 in
theorem insertPk (base n i gv : Nat) (v : Value) (e : List Pk) (p : Pk) (w : World) (h : PkO w base v n e) (hb : base ≤ w.heap.size) (hi : i ≤ n) (hn : n ≤ 1000000) (hv : w.heap[gv]? = some (.cells #[.int .i64 p.q, .int .i64 p.v] 34 (0, 0))) (hne : ∀ q, v.ownBlock = some q → gv ≠ q) :
    Calls Try.prog 37 #[v, .int .i64 i, .slice (some ⟨gv, 0, none⟩) 1 1] w fun r w' => ∃ v', r = .returned v' ∧ PkO w' base v' (n + 1) (e.take i ++ p :: e.drop i) ∧ w.grownBy w' v.ownBlock ∧ (v'.ownBlock = v.ownBlock ∨ ∃ b, v'.ownBlock = some b ∧ w.heap.size ≤ b) := by
  have hl : e.length = n := by have := h.out.1; rw [pk_len] at this; omega
  have hlr : (e.take i ++ p :: e.drop i).length = n + 1 := by simp; omega
  have hlen : (nums .i64 (pkF (e.take i ++ p :: e.drop i))).length = (n + 1) * 2 := by rw [pk_len, hlr]
  by_cases hin : i = n
  · subst hin
    have hR : PkR w (some ⟨gv, 0, none⟩) 1 [p] := ⟨⟨rfl, by omega, fun _ => ⟨_, rfl, fun j hj => by
      rw [add_off ⟨gv, 0, none⟩ gv 0 j rfl, Nat.zero_add, blk_cell hv j]
      match j, hj with
      | 0, _ => rfl
      | 1, _ => rfl⟩⟩⟩
    have e1 : e.take i ++ p :: e.drop i = e ++ [p] := by rw [List.take_of_length_le (by omega), List.drop_of_length_le (by omega)]
    have HE := hid e1
    have HO := hid (show PkO w base v e.length e by rw [hl]; exact h)
    have HH := hid h
    obtain ⟨A, c, rfl, hc, _⟩ := h.reads
    have HLR := hid hlr
    have HL2 := hid hl
    have hcm : c ≤ 9223372036854775807 := by
      rcases HH.out.out.2 with ⟨e1, _⟩ | ⟨g, cap, cur, e1, _, _, _, hcm, _⟩
      · cases e1; omega
      · cases e1; unfold maxLen at hcm; omega
    have hci : i ≤ c := hc
    clear e1 hlr hlen hl h
    rcases Nat.lt_or_ge i c with hcl | hcl
    · have hce : ¬ c = i := by omega
      go_enter Try.func37, Try.ntmps37
      go_wp2_with (at_builtin; refine appendPks (w0 := w) base rfl _ _ rfl (.slice A i c) e [p] (some ⟨gv, 0, none⟩) 1 1 rfl rfl HO.out hR (Below.refl _ _) hb (by have := HL2.out; omega) ?_; intro v1 w1 ho hB hg had)
      go_ret
      exact ⟨_, rfl, by rw [HE.out]; have h := ho; rw [← HE.out, HLR.out, HE.out] at h; exact h, hg, had⟩
    · obtain rfl : c = i := by omega
      go_enter Try.func37, Try.ntmps37
      go_wp2_with (at_builtin; refine appendPks (w0 := w) base rfl _ _ rfl (.slice A c c) e [p] (some ⟨gv, 0, none⟩) 1 1 rfl rfl HO.out hR (Below.refl _ _) hb (by have := HL2.out; omega) ?_; intro v1 w1 ho hB hg had)
      go_ret
      exact ⟨_, rfl, by rw [HE.out]; have h := ho; rw [← HE.out, HLR.out, HE.out] at h; exact h, hg, had⟩
  · rcases h.out.2 with ⟨rfl, h0⟩ | ⟨g, cap, cur, rfl, hg0, hk, hnc, hcm, hcs, htk⟩
    · omega
    · have hc63 : cap ≤ 9223372036854775807 := by unfold maxLen at hcm; omega
      by_cases hroom : n + 1 ≤ cap
      · refine (insert_shift g n cap i gv e p cur w hk hcs htk hl (by omega) hroom hc63 hv (hne g rfl)).mono ?_
        rintro r w' ⟨rfl, ⟨cur', hk', hcs', htk'⟩, hG⟩
        exact ⟨_, rfl, ⟨⟨hlen, .inr ⟨g, cap, cur', rfl, hg0, hk', hroom, hcm, hcs', htk'⟩⟩⟩, hG, .inl rfl⟩
      · obtain rfl : cap = n := by omega
        refine (insert_grow g cap i gv e p cur w hk hcs htk hl (by omega) hn hv).mono ?_
        rintro r w' ⟨G, rfl, h1, h2, ⟨cur', hk', hcs', htk'⟩, b⟩
        exact ⟨_, rfl, ⟨⟨hlen, .inr ⟨w.heap.size, G, cur', rfl, hb, hk', h1, by unfold maxLen; omega, hcs', htk'⟩⟩⟩, grown_of_below b.out _, .inr ⟨_, rfl, Nat.le_refl _⟩⟩

def drain : List Int → List Pk → Ib
  | g, [] => ⟨g, []⟩
  | g, p :: r => if p.q = (g.length : Int) ∧ g.length < 1000 then drain (g ++ [p.v]) r else ⟨g, p :: r⟩
def insS (e : List Pk) (p : Pk) : List Pk := e.take (posP e p.q) ++ p :: e.drop (posP e p.q)
def hasP (e : List Pk) (x : Int) : Bool := decide (posP e x < e.length) && ((gp e (posP e x)).q == x)
/-- what Deliver answers -/
def delS (s : Ib) (p : Pk) : Ib :=
  if ibOk s = true ∧ s.g.length < 1000 then
    if p.q = (s.g.length : Int) then drain (s.g ++ [p.v]) s.e
    else if (s.g.length : Int) < p.q ∧ s.e.length < 16 ∧ hasP s.e p.q = false then ⟨s.g, insS s.e p⟩ else s
  else s
theorem drain_len : ∀ (e : List Pk) (g : List Int), (drain g e).g.length + (drain g e).e.length = g.length + e.length
  | [], g => rfl
  | p :: r, g => by
    rw [drain]
    split
    · rw [drain_len r]
      simp
      omega
    · rfl
/-- the box of an inbox under way: what has come, own; the early ones, read -/
structure TkS (w0 w : World) (P : Nat) (vg : Value) (B : Option Addr) (d : Nat) (g : List Int) (e : List Pk) : Prop where
  bx : w.heap[P]? = some (.cells #[vg, .slice B e.length d] 31 (0, 0))
  og : OI w w0.heap.size vg g.length g
  re : PkR w B e.length e
  cap : e.length ≤ d
  ap : ∀ ad, B = some ad → some ad.block ≠ vg.ownBlock
  lt : ∀ ad, B = some ad → ad.block < w.heap.size
  np : ∀ ad, B = some ad → ad.block ≠ P
  bw : Bw w0 w
  lo : w0.heap.size ≤ P
theorem TkS.to {w0 w w' : World} {P : Nat} {vg : Value} {B : Option Addr} {d : Nat} {g : List Int} {e : List Pk} (h : TkS w0 w P vg B d g e) (b : Bw w w') : TkS w0 w' P vg B d g e :=
  ⟨(b.out.block _ (blk_lt h.bx)).trans h.bx, h.og.to b, h.re.to b, h.cap, h.ap, fun ad e => Nat.lt_of_lt_of_le (h.lt ad e) b.size, h.np, h.bw.trans b, h.lo⟩
theorem PkR.same {w w' : World} {B : Option Addr} {n : Nat} {e : List Pk} (h : PkR w B n e) (hb : ∀ ad, B = some ad → w'.heap[ad.block]? = w.heap[ad.block]?) : PkR w' B n e := ⟨⟨h.out.len, h.out.max, fun hn => by
  obtain ⟨ad, e1, hc⟩ := h.out.at_ hn
  refine ⟨ad, e1, fun j hj => ?_⟩
  have h1 : (ad.add j).block = ad.block := by unfold Addr.add; split <;> rfl
  exact (World.cell?_of_block (show w'.heap[(ad.add j).block]? = w.heap[(ad.add j).block]? by rw [h1]; exact hb ad e1)).trans (hc j hj)⟩⟩
/-- behind an append to what has come, and its store -/
theorem TkS.put {w0 w w5 : World} {P : Nat} {vg v1 : Value} {B : Option Addr} {d : Nat} {g g1 : List Int} {e : List Pk} (h : TkS w0 w P vg B d g e) (o : OI w5 w0.heap.size v1 g1.length g1) (hB : Below w0.heap.size w0 w5) (hg : w.grownBy w5 vg.ownBlock) (had : v1.ownBlock = vg.ownBlock ∨ ∃ b, v1.ownBlock = some b ∧ w.heap.size ≤ b) :
    TkS w0 (w5.setCell ⟨P, 0, none⟩ v1) P v1 B d g1 e := by
  have hP := own_ne h.og.out h.bx (by decide)
  have hb5 := blk_grown h.bx hg hP
  have hsame : ∀ ad, B = some ad → w5.heap[ad.block]? = w.heap[ad.block]? := fun ad e1 => hg.block _ (h.lt ad e1) (h.ap ad e1)
  have hsame2 : ∀ ad, B = some ad → (w5.setCell ⟨P, 0, none⟩ v1).heap[ad.block]? = w5.heap[ad.block]? := fun ad e1 => Below.heap_setCell w5 ⟨P, 0, none⟩ v1 ad.block (h.np ad e1)
  refine ⟨blk_set hb5 0 v1, ?_, (h.re.same hsame).same hsame2, h.cap, fun ad e1 e2 => ?_, fun ad e1 => ?_, h.np, ⟨bw_set ⟨hB⟩ h.lo 0 v1 |>.out⟩, h.lo⟩
  · exact ⟨own_move o.out fun k hk => Below.heap_setCell w5 ⟨P, 0, none⟩ v1 k (fun e1 => own_ne o.out hb5 (by decide) (by rw [hk, e1]))⟩
  · rcases had with h1 | ⟨b, h1, h2⟩
    · exact h.ap ad e1 (e2.trans h1)
    · have h3 := Option.some.inj (e2.trans h1)
      have := h.lt ad e1
      omega
  · have h1 := h.lt ad e1
    have h2 := hg.size
    simp [World.setCell]
    omega
/-- behind the store of the early ones without their first -/
theorem TkS.cut {w0 w : World} {P : Nat} {vg : Value} {ad ad' : Addr} {d : Nat} {g : List Int} {p : Pk} {e : List Pk} (h : TkS w0 w P vg (some ad) d g (p :: e)) (hb : ad'.block = ad.block) (he : 0 < e.length → ad' = ad.add 2) :
    TkS w0 (w.setCell ⟨P, 1, none⟩ (.slice (some ad') e.length (d - 1))) P vg (some ad') (d - 1) g e := by
  have hre : PkR w (some ad') e.length e := ⟨⟨pkF_length e, by have := h.re.max; rw [List.length_cons] at this; omega, fun hn => by
    obtain rfl := he (by omega)
    obtain ⟨_, e1, hc⟩ := h.re.out.at_ (by rw [List.length_cons]; omega)
    obtain rfl := Option.some.inj e1
    refine ⟨_, rfl, fun j hj => ?_⟩
    have h1 := hc (2 + j) (by rw [List.length_cons]; omega)
    rw [Addr.add_add, h1, rd_nat, rd_nat, pkF_cons, show 2 + j = j + 2 by omega, List.getD_cons_succ, List.getD_cons_succ]⟩⟩
  have hcap := h.cap
  rw [List.length_cons] at hcap
  refine ⟨?_, ?_, hre.same fun a e1 => ?_, by omega, fun a e1 => ?_, fun a e1 => ?_, fun a e1 => ?_, ⟨(bw_set h.bw h.lo 1 _).out⟩, h.lo⟩
  · exact blk_set h.bx 1 _
  · exact ⟨own_move h.og.out fun k hk => Below.heap_setCell w ⟨P, 1, none⟩ _ k (fun e1 => own_ne h.og.out h.bx (by decide) (by rw [hk, e1]))⟩
  · obtain rfl := Option.some.inj e1
    exact Below.heap_setCell w ⟨P, 1, none⟩ _ _ (by rw [hb]; exact h.np ad rfl)
  · obtain rfl := Option.some.inj e1
    rw [hb]
    exact h.ap ad rfl
  · obtain rfl := Option.some.inj e1
    rw [hb]
    simpa [World.setCell] using h.lt ad rfl
  · obtain rfl := Option.some.inj e1
    rw [hb]
    exact h.np ad rfl
theorem len_put {w0 w5 : World} {P d y : Nat} {X B : Option Addr} {g : List Int} {v : Int} {e : List Pk} (h : TkS w0 (w5.setCell ⟨P, 0, none⟩ (.slice X (g ++ [v]).length y)) P (.slice X (g ++ [v]).length y) B d (g ++ [v]) e) : TkS w0 (w5.setCell ⟨P, 0, none⟩ (.slice X (g.length + 1) y)) P (.slice X (g.length + 1) y) B d (g ++ [v]) e := by
  have e9 : (g ++ [v]).length = g.length + 1 := by simp
  rw [e9] at h
  exact h
def sliceLen1 : Option Value → Nat
  | some (.slice _ n _) => n
  | _ => 0

set_option maxHeartbeats 8000000 in
set_option maxRecDepth 100000 in
theorem impl_take (w0 : World) (P : Nat) (vg : Value) (B : Option Addr) (d : Nat) (g : List Int) (e : List Pk) (v : Int) (w : World) (h : TkS w0 w P vg B d g e) (hg : g.length + e.length ≤ 1000000) :
    Calls Try.prog 35 #[.pointer (some ⟨P, 0, none⟩), .int .i64 v] w fun r w' => ∃ u, r = .returned u ∧ ∃ vg' B' d', TkS w0 w' P vg' B' d' (drain (g ++ [v]) e).g (drain (g ++ [v]) e).e := by
  obtain ⟨R, hR⟩ : ∃ R, drain (g ++ [v]) e = R := ⟨_, rfl⟩
  rw [hR]
  have HR := hid hR
  have k0 := (blk_cell h.bx 0).trans (show _ = some vg from rfl)
  have f0 := blk_frozen h.bx 0
  have HG := hid hg
  have HT := hid h
  have HL := hid (h.to (Bw.box1 w (.cells #[.int .i64 v] 3)))
  have hlr := hid (show RI (w.alloc (.cells #[.int .i64 v] 3)) (some ⟨w.heap.size, 0, none⟩) 1 [v] from (show OI (w.alloc (.cells #[.int .i64 v] 3)) w.heap.size (.slice (some ⟨w.heap.size, 0, none⟩) 1 1) 1 [v] from ⟨own_lit w w.heap.size 3 .i64 [v] (Nat.le_refl _) (by simp)⟩).ri)
  obtain ⟨Ag, cg, rfl, _⟩ := h.og.reads
  clear hR h hg
  go_enter Try.func35, Try.ntmps35
  go_wp2_with (at_builtin; refine appendInts (w0 := w0) w0.heap.size rfl _ _ rfl (.slice Ag g.length cg) g [v] (some ⟨w.heap.size, 0, none⟩) 1 1 rfl rfl HL.out.og hlr.out HL.out.bw.out HL.out.bw.size (by simp; have := HG.out; omega) ?_; intro v1 w5 ho hB hg had; obtain ⟨X, y, rfl, _, _⟩ := FO.reads (t := 3) (k := 1) ⟨ho.out⟩; have hT4 := hid (len_put (HL.out.put ho hB hg had)); have hs0 := (blk_cell (blk_grown HL.out.bx hg (own_ne HL.out.og.out HL.out.bx (by decide))) 0).trans (show _ = some (Value.slice Ag g.length cg) from rfl); have hf0 := blk_frozen (blk_grown HL.out.bx hg (own_ne HL.out.og.out HL.out.bx (by decide))) 0)
  generalize (w5.setCell ⟨P, 0, none⟩ (.slice X (g.length + 1) y)) = W5 at *
  have HGL := hid (show (g ++ [v]).length + e.length ≤ 1000001 by have := HG.out; simp; omega)
  clear k0 f0 HL hlr HT ho hB hg had hs0 hf0 HG
  generalize g ++ [v] = g0 at *
  go_loopw [14] (fun v14 wr => ∃ (vg : Value) (B : Option Addr) (d : Nat) (g : List Int) (e : List Pk), Hid (TkS w0 wr P vg B d g e) ∧ Hid (g.length + e.length ≤ 1000001) ∧ Hid (drain g e = R)) (fun _ wr => sliceLen1 (wr.cell? ⟨P, 1, none⟩))
  case atStart => exact ⟨_, _, _, _, _, hT4, HGL, HR⟩
  case round =>
    clear hT4 HGL HR
    obtain ⟨vg, B, d, g, e, hT, HGL, HR⟩ := hrel
    have k0 := (blk_cell hT.out.bx 0).trans (show _ = some vg from rfl)
    have k1 := (blk_cell hT.out.bx 1).trans (show _ = some (Value.slice B e.length d) from rfl)
    have hog := hT.out.og
    obtain ⟨Ag, cg, rfl, _⟩ := hog.reads
    clear hog
    cases e with
    | nil =>
      have hz := hid (show R = ⟨g, []⟩ from HR.out.symm)
      have t1 : decide ((0 : Int) < 0) = false := by decide
      have t2 : decide (0 < 0) = false := by decide
      go_wp2
      go_quiet (fail)
      go_wp2
      exact bodyPost_end (v := .tuple #[]) (by simp [results, Try.results35, go_sem]) rfl ⟨_, rfl, _, _, _, by rw [hz.out]; exact hT.out.to (Bw.drawn ⟨⟨_, rfl⟩⟩)⟩
    | cons p e =>
      obtain ⟨pq, pv⟩ := p
      obtain ⟨ad, rfl, x0, x1⟩ := hT.out.re.at 0 (by simp)
      have ha : ad.add (0 * 2) = ad := by rw [Nat.zero_mul]; rfl
      rw [ha] at x0 x1
      replace x0 : wr.cell? ad = some (.int .i64 pq) := x0
      replace x1 : wr.cell? ⟨ad.block, ad.off + 1, none⟩ = some (.int .i64 pv) := x1
      have hlen : (Pk.mk pq pv :: e).length = e.length + 1 := rfl
      rw [hlen] at k1
      have hd : e.length + 1 ≤ d := hT.out.cap
      have t1 : decide (((e.length : Int) + 1) > 0) = true := decide_eq_true (by omega)
      have t1' : decide ((0 : Int) < (e.length : Int) + 1) = true := decide_eq_true (by omega)
      have t2 : decide (0 < e.length + 1) = true := decide_eq_true (by omega)
      have t0 : 0 < e.length + 1 := by omega
      have i1 : (0 : Int) < (e.length : Int) + 1 := by omega
      have hme : sliceLen1 (wr.cell? ⟨P, 1, none⟩) = e.length + 1 := by rw [k1]; rfl
      have HM := hid hme
      clear ha hlen hme
      by_cases hq : pq = (g.length : Int) ∧ g.length < 1000
      case neg =>
        have hz := hid (show R = ⟨g, ⟨pq, pv⟩ :: e⟩ from HR.out.symm.trans (by rw [drain, if_neg hq]))
        by_cases hq1 : pq = (g.length : Int)
        · have hq2 : ¬ g.length < 1000 := fun h => hq ⟨hq1, h⟩
          have t3 : (pq == (g.length : Int)) = true := by simp [hq1]
          have t4 : decide ((g.length : Int) < 1000) = false := decide_eq_false (by omega)
          have t5 : decide (g.length < 1000) = false := decide_eq_false (by omega)
          clear hq hq1 hq2
          go_wp2
          go_quiet (fail)
          go_wp2
          exact bodyPost_end (v := .tuple #[]) (by simp [results, Try.results35, go_sem]) rfl ⟨_, rfl, _, _, _, by rw [hz.out]; exact hT.out.to (Bw.drawn ⟨⟨_, rfl⟩⟩)⟩
        · have t3 : (pq == (g.length : Int)) = false := by simp [hq1]
          clear hq hq1
          go_wp2
          go_quiet (fail)
          go_wp2
          exact bodyPost_end (v := .tuple #[]) (by simp [results, Try.results35, go_sem]) rfl ⟨_, rfl, _, _, _, by rw [hz.out]; exact hT.out.to (Bw.drawn ⟨⟨_, rfl⟩⟩)⟩
      case pos =>
        have hz := hid (show drain (g ++ [pv]) e = R by rw [← HR.out, drain, if_pos hq])
        have t3 : (pq == (g.length : Int)) = true := by simp [hq.1]
        have t4 : decide ((g.length : Int) < 1000) = true := decide_eq_true (by omega)
        have t5 : decide (g.length < 1000) = true := decide_eq_true hq.2
        clear hq
        go_upto_region 1 with fail
        go_quiet (fail)
        go_upto_region 2 with fail
        replace hT := hid (hT.out.to (Bw.drawn ⟨⟨_, rfl⟩⟩) : TkS w0 (wr.drewN nq) P _ _ d g _)
        replace k0 : (wr.drewN nq).cell? ⟨P, 0, none⟩ = some (.slice Ag g.length cg) := k0
        replace k1 : (wr.drewN nq).cell? ⟨P, 1, none⟩ = some (.slice (some ad) (e.length + 1) d) := k1
        replace x1 : (wr.drewN nq).cell? ⟨ad.block, ad.off + 1, none⟩ = some (.int .i64 pv) := x1
        clear x0 t1 t1' t2 t3 t4 t5
        generalize wr.drewN nq = W2 at *
        refine start_ (n := 17) (S := fun w' => w'.cell? ⟨P, 0, none⟩ = some (.slice Ag (g.length) cg) ∧ w'.cell? ⟨P, 1, none⟩ = some (.slice (some ad) (e.length + 1) d) ∧ w'.cell? ⟨ad.block, ad.off + 1, none⟩ = some (.int .i64 pv)) (ds := [16]) #[false, false, false, false, false, false, false, false, false, false, false, false, false, false, false, false, false] (by kernel_rfl) rfl rfl ⟨k0, k1, x1⟩ (fun hHeld => ?_)
        refine pure_ (i := 0) (N := (some 43)) (v := ?_) (a' := ?_) #[true, false, false, false, false, false, false, false, false, false, false, false, false, false, false, false, false] rfl rfl (by kernel_rfl) (fun _ _ _ h => h) (Or.inl ⟨by rfl, ?_⟩) ?_ ?_
        rotate_left
        · intro w'
          go_simp
          with_reducible rfl
        rotate_left
        · simp only [Act.put, List.setIfInBounds_toArray, List.set_cons_zero, List.set_cons_succ, i64_w, i32_w]
          rfl
        refine pure_ (i := 1) (N := (some 44)) (v := ?_) (a' := ?_) #[true, true, false, false, false, false, false, false, false, false, false, false, false, false, false, false, false] rfl rfl (by kernel_rfl) (fun _ _ _ h => h) (Or.inl ⟨by rfl, ?_⟩) ?_ ?_
        rotate_left
        · intro w'
          go_simp
          with_reducible rfl
        rotate_left
        · simp only [Act.put, List.setIfInBounds_toArray, List.set_cons_zero, List.set_cons_succ, i64_w, i32_w]
          rfl
        refine pure_ (i := 2) (N := (some 45)) (v := ?_) (a' := ?_) #[true, true, true, false, false, false, false, false, false, false, false, false, false, false, false, false, false] rfl rfl (by kernel_rfl) (fun _ _ _ h => h) (Or.inl ⟨by rfl, ?_⟩) ?_ ?_
        rotate_left
        · intro w'
          go_simp
          with_reducible rfl
        rotate_left
        · simp only [Act.put, List.setIfInBounds_toArray, List.set_cons_zero, List.set_cons_succ, i64_w, i32_w]
          rfl
        refine pure_ (i := 3) (N := (some 46)) (v := ?_) (a' := ?_) #[true, true, true, true, false, false, false, false, false, false, false, false, false, false, false, false, false] rfl rfl (by kernel_rfl) (fun _ _ _ h => h) (Or.inl ⟨by rfl, ?_⟩) ?_ ?_
        rotate_left
        · intro w'
          go_simp
          with_reducible rfl
        rotate_left
        · simp only [Act.put, List.setIfInBounds_toArray, List.set_cons_zero, List.set_cons_succ, i64_w, i32_w]
          rfl
        refine take_ (i := 4) (N := (some 47)) (v := ?_) (a' := ?_) #[true, true, true, true, true, false, false, false, false, false, false, false, false, false, false, false, false] rfl rfl (by kernel_rfl) (fun _ _ _ h => h) (Or.inl ⟨by rfl, ?_⟩) hHeld ?_ ?_
        rotate_left
        · rintro w' ⟨s0, s1, s2⟩
          go_simp
          with_reducible rfl
        rotate_left
        · simp only [Act.put, List.setIfInBounds_toArray, List.set_cons_zero, List.set_cons_succ, i64_w, i32_w]
          rfl
        refine pure_ (i := 5) (N := (some 48)) (v := ?_) (a' := ?_) #[true, true, true, true, true, true, false, false, false, false, false, false, false, false, false, false, false] rfl rfl (by kernel_rfl) (fun _ _ _ h => h) (Or.inl ⟨by rfl, ?_⟩) ?_ ?_
        rotate_left
        · intro w'
          go_simp
          with_reducible rfl
        rotate_left
        · simp only [Act.put, List.setIfInBounds_toArray, List.set_cons_zero, List.set_cons_succ, i64_w, i32_w]
          rfl
        refine pure_ (i := 6) (N := (some 49)) (v := ?_) (a' := ?_) #[true, true, true, true, true, true, true, false, false, false, false, false, false, false, false, false, false] rfl rfl (by kernel_rfl) (fun _ _ _ h => h) (Or.inl ⟨by rfl, ?_⟩) ?_ ?_
        rotate_left
        · intro w'
          go_simp
          with_reducible rfl
        rotate_left
        · simp only [Act.put, List.setIfInBounds_toArray, List.set_cons_zero, List.set_cons_succ, i64_w, i32_w]
          rfl
        refine pure_ (i := 7) (N := (some 50)) (v := ?_) (a' := ?_) #[true, true, true, true, true, true, true, true, false, false, false, false, false, false, false, false, false] rfl rfl (by kernel_rfl) (fun _ _ _ h => h) (Or.inl ⟨by rfl, ?_⟩) ?_ ?_
        rotate_left
        · intro w'
          go_simp
          with_reducible rfl
        rotate_left
        · simp only [Act.put, List.setIfInBounds_toArray, List.set_cons_zero, List.set_cons_succ, i64_w, i32_w]
          rfl
        refine take_ (i := 8) (N := (some 51)) (v := ?_) (a' := ?_) #[true, true, true, true, true, true, true, true, true, false, false, false, false, false, false, false, false] rfl rfl (by kernel_rfl) (fun _ _ _ h => h) (Or.inl ⟨by rfl, ?_⟩) hHeld ?_ ?_
        rotate_left
        · rintro w' ⟨s0, s1, s2⟩
          go_simp
          with_reducible rfl
        rotate_left
        · simp only [Act.put, List.setIfInBounds_toArray, List.set_cons_zero, List.set_cons_succ, i64_w, i32_w]
          rfl
        refine pure_ (i := 9) (N := (some 52)) (v := ?_) (a' := ?_) #[true, true, true, true, true, true, true, true, true, true, false, false, false, false, false, false, false] rfl rfl (by kernel_rfl) (fun _ _ _ h => h) (Or.inl ⟨by rfl, ?_⟩) ?_ ?_
        rotate_left
        · intro w'
          go_simp
          with_reducible rfl
        rotate_left
        · simp only [Act.put, List.setIfInBounds_toArray, List.set_cons_zero, List.set_cons_succ, i64_w, i32_w]
          rfl
        refine pure_ (i := 10) (N := (some 53)) (v := ?_) (a' := ?_) #[true, true, true, true, true, true, true, true, true, true, true, false, false, false, false, false, false] rfl rfl (by kernel_rfl) (fun _ _ _ h => h) (Or.inl ⟨by rfl, ?_⟩) ?_ ?_
        rotate_left
        · intro w'
          go_simp
          with_reducible rfl
        rotate_left
        · simp only [Act.put, List.setIfInBounds_toArray, List.set_cons_zero, List.set_cons_succ, i64_w, i32_w]
          rfl
        refine take_ (i := 11) (N := (some 54)) (v := ?_) (a' := ?_) #[true, true, true, true, true, true, true, true, true, true, true, true, false, false, false, false, false] rfl rfl (by kernel_rfl) (fun _ _ _ h => h) (Or.inl ⟨by rfl, ?_⟩) hHeld ?_ ?_
        rotate_left
        · rintro w' ⟨s0, s1, s2⟩
          go_simp
          with_reducible rfl
        rotate_left
        · simp only [Act.put, List.setIfInBounds_toArray, List.set_cons_zero, List.set_cons_succ, i64_w, i32_w]
          rfl
        have hT2 := hT.out.to (Bw.drawn ⟨⟨1, rfl⟩⟩)
        have bL := Bw.box1 W2.drew (.cells #[.int .i64 pv] 3)
        have hT3 := hid (hT2.to bL)
        have hLR := hid (show RI (W2.drew.alloc (.cells #[.int .i64 pv] 3)) (some ⟨W2.drew.heap.size, 0, none⟩) 1 [pv] from (show OI (W2.drew.alloc (.cells #[.int .i64 pv] 3)) W2.drew.heap.size (.slice (some ⟨W2.drew.heap.size, 0, none⟩) 1 1) 1 [pv] from ⟨own_lit W2.drew W2.drew.heap.size 3 .i64 [pv] (Nat.le_refl _) (by simp)⟩).ri)
        refine one_ (i := 12) (N := (some 55)) #[true, true, true, true, true, true, true, true, true, true, true, true, true, false, false, false, false] rfl rfl (by kernel_rfl) (by decide) (fun K hK => ?_)
        refine value_ (w1 := ?_) (v := ?_) (by rfl) rfl ?_ ?_
        rotate_left 2
        · go_simp
          constructor
          · rfl
          · rfl
        refine hK.out _ _ ⟨pw_cell_below bL.out hHeld.1, pw_cell_below bL.out hHeld.2.1, pw_cell_below bL.out hHeld.2.2⟩ (fun _ => ?_)
        clear hK K
        refine norm_ (a' := ?_) ?_ ?_
        rotate_left
        · show Act.put _ (some 55) _ = _
          simp only [Act.put, List.setIfInBounds_toArray, List.set_cons_zero, List.set_cons_succ, i64_w, i32_w]
          rfl
        have hx3 := hid (pw_cell_below bL.out hHeld.2.2)
        clear hHeld hT2 bL
        refine one_ (i := 13) (N := (some 56)) #[true, true, true, true, true, true, true, true, true, true, true, true, true, true, false, false, false] rfl rfl (by kernel_rfl) (by decide) (fun K hK => ?_)
        refine appendInts_step (w0 := w0) w0.heap.size (by rfl) (.tmp 47) (.tmp 55) rfl (.slice Ag g.length cg) g [pv] (some ⟨W2.drew.heap.size, 0, none⟩) 1 1 rfl rfl hT3.out.og hLR.out hT3.out.bw.out hT3.out.bw.size (by simp; have := HGL.out; omega) ?_
        intro v1 w5 ho hB hg had
        obtain ⟨X, y, rfl, _, _⟩ := FO.reads (t := 3) (k := 1) ⟨ho.out⟩
        have hT4 := hid (len_put (hT3.out.put ho hB hg had))
        have hb5 := blk_grown hT3.out.bx hg (own_ne hT3.out.og.out hT3.out.bx (by decide))
        have hs0 := hid (show w5.cell? ⟨P, 0, none⟩ = some (.slice Ag g.length cg) from (blk_cell hb5 0).trans rfl)
        have hs5 := hid (show w5.cell? ⟨P, 1, none⟩ = some (.slice (some ad) (e.length + 1) d) from (blk_cell hb5 1).trans rfl)
        have hx5 := hid ((show w5.cell? ⟨ad.block, ad.off + 1, none⟩ = _ from World.cell?_of_block (hg.block ad.block (hT3.out.lt ad rfl) (hT3.out.ap ad rfl))).trans hx3.out)
        have hf0 := hid (show w5.frozen? ⟨P, 0, none⟩ = false from blk_frozen hb5 0)
        clear hT3 hLR hg hB ho had hT hb5 hx3
        refine hK.out _ _ ⟨hs0.out, hs5.out, hx5.out⟩ (fun _ => ?_)
        clear hs5 hx5
        clear hK K
        refine norm_ (a' := ?_) ?_ ?_
        rotate_left
        · show Act.put _ (some 56) _ = _
          simp only [Act.put, List.setIfInBounds_toArray, List.set_cons_zero, List.set_cons_succ, i64_w, i32_w]
          rfl
        refine pure_ (i := 14) (N := (some 57)) (v := ?_) (a' := ?_) #[true, true, true, true, true, true, true, true, true, true, true, true, true, true, true, false, false] rfl rfl (by kernel_rfl) (fun _ _ _ h => h) (Or.inl ⟨by rfl, ?_⟩) ?_ ?_
        rotate_left
        · intro w'
          go_simp
          with_reducible rfl
        rotate_left
        · simp only [Act.put, List.setIfInBounds_toArray, List.set_cons_zero, List.set_cons_succ, i64_w, i32_w]
          rfl
        refine pure_ (i := 15) (N := (some 58)) (v := ?_) (a' := ?_) #[true, true, true, true, true, true, true, true, true, true, true, true, true, true, true, true, false] rfl rfl (by kernel_rfl) (fun _ _ _ h => h) (Or.inl ⟨by rfl, ?_⟩) ?_ ?_
        rotate_left
        · intro w'
          go_simp
          with_reducible rfl
        rotate_left
        · simp only [Act.put, List.setIfInBounds_toArray, List.set_cons_zero, List.set_cons_succ, i64_w, i32_w]
          rfl
        refine last_ (i := 16) (N := none) #[true, true, true, true, true, true, true, true, true, true, true, true, true, true, true, true, true] rfl rfl (by kernel_rfl) (by decide) (fun K hK => ?_)
        have hs1 := hs0.out
        have hf1 := hf0.out
        refine skip_ (w1 := ?_) (by rfl) rfl ?_ ?_
        rotate_left
        · go_simp
          rfl
        refine hK.out _ _ ?_
        clear hK K hs1 hf1 hs0 hf0
        refine done_ (by kernel_rfl) ?_
        generalize (w5.setCell ⟨P, 0, none⟩ (.slice X (g.length + 1) y)) = W6 at *
        have m0 := (blk_cell hT4.out.bx 0).trans (show _ = some (Value.slice X (g.length + 1) y) from rfl)
        have m1 := (blk_cell hT4.out.bx 1).trans (show _ = some (Value.slice (some ad) (e.length + 1) d) from rfl)
        have mf := blk_frozen hT4.out.bx 1
        have HGL2 := hid (show (g ++ [pv]).length + e.length ≤ 1000001 by have := HGL.out; simp at this ⊢; omega)
        clear k0 k1 x1
        by_cases hd1 : d = 1
        · subst hd1
          cases e with
          | nil =>
            have hT5 := hid (hT4.out.cut (ad' := ad) rfl (fun h => absurd h (by simp)))
            have HZ5 := hid (show (W6.setCell ⟨P, 1, none⟩ (.slice (some ad) 0 0)).cell? ⟨P, 1, none⟩ = some (Value.slice (some ad) 0 0) from (blk_cell hT5.out.bx 1).trans rfl)
            go_wp2
            go_roundw
            case rel => exact ⟨_, _, _, _, _, hT5, HGL2, hz⟩
            case measure => rw [HM.out, HZ5.out]; exact Nat.lt_succ_self _
          | cons p2 e2 => rw [List.length_cons] at hd; omega
        · have hT5 := hid (hT4.out.cut (ad' := ⟨ad.block, ad.off + 2, none⟩) rfl (fun _ => (add_pos ad 2 (by omega)).symm))
          have HZ5 := hid (show (W6.setCell ⟨P, 1, none⟩ (.slice (some ⟨ad.block, ad.off + 2, none⟩) e.length (d - 1))).cell? ⟨P, 1, none⟩ = some (Value.slice (some ⟨ad.block, ad.off + 2, none⟩) e.length (d - 1)) from (blk_cell hT5.out.bx 1).trans rfl)
          go_wp2
          go_roundw
          case rel => exact ⟨_, _, _, _, _, hT5, HGL2, hz⟩
          case measure => rw [HM.out, HZ5.out]; exact Nat.lt_succ_self _
end Go.Proofs.Ytcdibjneoemidaa.U
