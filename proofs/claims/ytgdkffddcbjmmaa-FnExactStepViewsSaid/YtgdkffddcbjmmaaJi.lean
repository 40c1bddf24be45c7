
/- JoinViews, by the program. -/
import Derived.Test.YtgdkffddcbjmmaaJv
import Derived.Test.YtgdkffddcbjmmaaWMore
set_option linter.unusedVariables false
set_option linter.unusedSimpArgs false
namespace Go.Proofs.Ytgdkffddcbjmmaa.U
open Go.RowKit Go.Lib Go.Proofs.YtgdkffddcbjmmaaW.PrintWords
open Go.Proofs.YtgdkffddcbjmmaaW.PrintLast Go.Proofs.YtgdkffddcbjmmaaW.PrintMore
set_option maxHeartbeats 8000000 in
set_option maxRecDepth 100000 in
theorem impl_JoinViews (A : Option Addr) (n c : Nat) (L : List Vf) (w : World) (r : VwR w A n L) (hn : n + szTo L n ≤ 1048576) :
  Calls Try.prog 17 #[.slice A n c] w (Joined L w) := by
 have hl := r.len
 have hmax := r.max
 have bR := Bw.box1 w (.cells #[.int .i64 0, .slice none 0 0, .slice none 0 0, .slice none 0 0, .slice none 0 0] 39)
 have k0 := heap_alloc_new w (.cells #[.int .i64 0, .slice none 0 0, .slice none 0 0, .slice none 0 0, .slice none 0 0] 39 (0, 0))
 by_cases h0 : n = 0
 ·subst h0
  have hj : joinOk L = false := by simp [joinOk, hl]
  have HJ := hid hj
  clear hj hl
  go_enter Try.func17, Try.ntmps17
  go_wp2
  refine bodyPost_ret (v := .tuple #[.agg #[.int .i64 0, .slice none 0 0, .slice none 0 0, .slice none 0 0, .slice none 0 0], .bool false]) ?_ rfl (Joined.no HJ.out bR)
  exact results_ct (p := 2) (u := 3) rfl _ _ w.heap.size 39 #[.int .i64 0, .slice none 0 0, .slice none 0 0, .slice none 0 0, .slice none 0 0] (0, 0) _ rfl k0 Try.underlying39 rfl (by kernel_rfl)
 ·have t0 : ((n : Int) == 0) = false := by simp [h0]
  obtain ⟨ad, rfl, Al, nl, cl, Am, nm, cm, At, nt, ct, Ab, nb, cb, Ag, ng, cg, x0, x1, x2, x3, x4, x5, x6, _, hv⟩ := (r.to bR).nat 0 (by omega)
  have ha : ad.add (0 * 7) = ad := by rw [Nat.zero_mul]; rfl
  rw [ha] at x0 x1 x2 x3 x4 x5 x6
  have hp : (0 : Int) < (n : Int) := by omega
  have hp2 : 0 < n := by omega
  have hp3 : ¬ n = 0 := by omega
  have hsz : nb ≤ 1048576 := by
   have := hv.b.len
   have := szTo_le L n 0 (by omega)
   rw [vsz] at this
   omega
  have hb := hv.b
  have hbl := hv.b.len
  clear hv x1 x2 x3 x4 x6
  obtain ⟨bd, hbd⟩ : ∃ bd, (gv L 0).bd = bd := ⟨_, rfl⟩
  obtain ⟨ro, hro⟩ : ∃ ro, (gv L 0).ro = ro := ⟨_, rfl⟩
  rw [hbd] at hb hbl
  rw [hro] at x0
  go_enter Try.func17, Try.ntmps17
  go_upto_region 3 with fail
  have HW0 : (w.alloc (.cells #[.int .i64 0, .slice none 0 0, .slice none 0 0, .slice none 0 0, .slice none 0 0] 39)).heap.size = w.heap.size + 1 := by simp
  generalize (w.alloc (.cells #[.int .i64 0, .slice none 0 0, .slice none 0 0, .slice none 0 0, .slice none 0 0] 39)) = W0 at *
  go_cut [4] from 11 to 21 (fun v4 wx => ∃ (G : Nat) (X : Option Addr) (y : Nat), v4 = .pointer (some ⟨G, 0, none⟩) ∧ w.heap.size < G ∧ wx.heap[G]? = some (.cells #[.int .i64 ro, .slice none 0 0, .slice none 0 0, .slice none 0 0, .slice X nb y] 39 (0, 0)) ∧ OI wx w.heap.size (.slice X nb y) nb bd ∧ Bw W0 wx)
  case first =>
   refine start_ (n := 13) (S := fun w' => w'.cell? ad = some (.int .i64 ro) ∧ w'.cell? ⟨ad.block, ad.off + 5, none⟩ = some (.slice Ab nb cb)) (ds := [12]) #[false, false, false, false, false, false, false, false, false, false, false, false, false] (by kernel_rfl) rfl rfl ⟨x0, x5⟩ (fun hHeld => ?_)
   refine pq_ (i := 0) (N := (some 11)) (v := ?_) (a' := ?_) rfl rfl (by kernel_rfl) (fun _ _ _ h => h) (Or.inl ⟨by rfl, ?_⟩) ?_ ?_
   rotate_left; (intro w'; go_simp; with_reducible rfl); rotate_left; (simp only [Act.put, s1_, s2_, s3_, i64_w, i32_w]; rfl)
   refine pq_ (i := 1) (N := (some 12)) (v := ?_) (a' := ?_) rfl rfl (by kernel_rfl) (fun _ _ _ h => h) (Or.inl ⟨by rfl, ?_⟩) ?_ ?_
   rotate_left; (intro w'; go_simp; with_reducible rfl); rotate_left; (simp only [Act.put, s1_, s2_, s3_, i64_w, i32_w]; rfl)
   refine pq_ (i := 2) (N := (some 13)) (v := ?_) (a' := ?_) rfl rfl (by kernel_rfl) (fun _ _ _ h => h) (Or.inl ⟨by rfl, ?_⟩) ?_ ?_
   rotate_left; (intro w'; go_simp; with_reducible rfl); rotate_left; (simp only [Act.put, s1_, s2_, s3_, i64_w, i32_w]; rfl)
   refine tq_ (i := 3) (N := (some 14)) (v := ?_) (a' := ?_) rfl rfl (by kernel_rfl) (fun _ _ _ h => h) (Or.inl ⟨by rfl, ?_⟩) hHeld ?_ ?_
   rotate_left; (rintro w' ⟨s0, s1⟩; go_simp; with_reducible rfl); rotate_left; (simp only [Act.put, s1_, s2_, s3_, i64_w, i32_w]; rfl)
   refine pq_ (i := 4) (N := (some 15)) (v := ?_) (a' := ?_) rfl rfl (by kernel_rfl) (fun _ _ _ h => h) (Or.inl ⟨by rfl, ?_⟩) ?_ ?_
   rotate_left; (intro w'; go_simp; with_reducible rfl); rotate_left; (simp only [Act.put, s1_, s2_, s3_, i64_w, i32_w]; rfl)
   refine pq_ (i := 5) (N := (some 16)) (v := ?_) (a' := ?_) rfl rfl (by kernel_rfl) (fun _ _ _ h => h) (Or.inl ⟨by rfl, ?_⟩) ?_ ?_
   rotate_left; (intro w'; go_simp; with_reducible rfl); rotate_left; (simp only [Act.put, s1_, s2_, s3_, i64_w, i32_w]; rfl)
   refine pq_ (i := 6) (N := (some 17)) (v := ?_) (a' := ?_) rfl rfl (by kernel_rfl) (fun _ _ _ h => h) (Or.inl ⟨by rfl, ?_⟩) ?_ ?_
   rotate_left; (intro w'; go_simp; with_reducible rfl); rotate_left; (simp only [Act.put, s1_, s2_, s3_, i64_w, i32_w]; rfl)
   refine pq_ (i := 7) (N := (some 18)) (v := ?_) (a' := ?_) rfl rfl (by kernel_rfl) (fun _ _ _ h => h) (Or.inl ⟨by rfl, ?_⟩) ?_ ?_
   rotate_left; (intro w'; go_simp; with_reducible rfl); rotate_left; (simp only [Act.put, s1_, s2_, s3_, i64_w, i32_w]; rfl)
   refine tq_ (i := 8) (N := (some 19)) (v := ?_) (a' := ?_) rfl rfl (by kernel_rfl) (fun _ _ _ h => h) (Or.inl ⟨by rfl, ?_⟩) hHeld ?_ ?_
   rotate_left; (rintro w' ⟨s0, s1⟩; go_simp; with_reducible rfl); rotate_left; (simp only [Act.put, s1_, s2_, s3_, i64_w, i32_w]; rfl)
   refine two_ (i := 9) (j := 11) (Ni := some 20) (Nj := some 4) #[true, true, true, true, true, true, true, true, true, true, false, false, false] #[true, true, true, true, true, true, true, true, true, false, false, true, false] rfl rfl rfl rfl (by kernel_rfl) (by decide) (by decide) (fun K hK => ?_) (fun K hK => ?_)
   ·refine goes_ Try.func35 (by kernel_rfl) rfl #[.slice Ab nb cb] (by rfl) rfl rfl (by (try simp only [List.map_toArray, List.map_cons, List.map_nil]); first | done | rfl) ?_
    refine (cloneInts Ab nb cb bd _ (hb.to (Bw.drawn ⟨⟨1, rfl⟩⟩)) (by omega)).mono ?_
    rintro e w' ⟨v, rfl, o, b⟩
    obtain ⟨X, y, rfl, _, _⟩ := (FO.reads (t := 3) (k := 1) ⟨o.out⟩)
    refine ⟨_, rfl, ?_⟩
    have HB := (Bw.drawn (a := W0) ⟨⟨1, rfl⟩⟩).trans b
    refine hK.out _ _ ⟨pw_cell_below HB.out x0, pw_cell_below HB.out x5⟩ (fun hHeld => ?_)
    clear hK K; refine norm_ (a' := ?_) ?_ ?_; rotate_left; (show Act.put _ (some 20) _ = _; simp only [Act.put, s1_, s2_, s3_, i64_w, i32_w]; rfl)
    refine pq_ (i := 10) (N := (some 21)) (v := ?_) (a' := ?_) rfl rfl (by kernel_rfl) (fun _ _ _ h => h) (Or.inl ⟨by rfl, ?_⟩) ?_ ?_
    rotate_left; (intro w'; go_simp; with_reducible rfl); rotate_left; (simp only [Act.put, s1_, s2_, s3_, i64_w, i32_w]; rfl)
    refine one_ (i := 11) (N := (some 4)) #[true, true, true, true, true, true, true, true, true, true, true, true, false] rfl rfl (by kernel_rfl) (by decide) (fun K hK => ?_)
    refine box_step ?hg (N := 4) ?hd (cs := #[.int .i64 0, .slice none 0 0, .slice none 0 0, .slice none 0 0, .slice none 0 0]) (t := 39) ?hr ?_; (case hd => rfl); (case hg => rfl); (case hr => first | (go_simp; done) | (go_simp; rfl))
    intro G hG w5 hbox hb5
    have HG := hid hG
    clear hG
    have HB5 := HB.trans ⟨hb5⟩
    refine hK.out _ _ ⟨pw_cell_below HB5.out x0, pw_cell_below HB5.out x5⟩ (fun hHeld => ?_)
    clear hK K; refine norm_ (a' := ?_) ?_ ?_; rotate_left; (show Act.put _ (some 4) _ = _; simp only [Act.put, s1_, s2_, s3_, i64_w, i32_w]; rfl)
    refine last_ (i := 12) (N := none) #[true, true, true, true, true, true, true, true, true, true, true, true, true] rfl rfl (by kernel_rfl) (by decide) (fun K hK => ?_)
    have hs0 : w5.cell? ⟨G, 0, none⟩ = some (.int .i64 0) := blk_cell hbox 0
    have hf0 := blk_frozen hbox 0
    have hs1 : w5.cell? ⟨G, 1, none⟩ = some (.slice none 0 0) := blk_cell hbox 1
    have hf1 := blk_frozen hbox 1
    have hs2 : w5.cell? ⟨G, 2, none⟩ = some (.slice none 0 0) := blk_cell hbox 2
    have hf2 := blk_frozen hbox 2
    have hs3 : w5.cell? ⟨G, 3, none⟩ = some (.slice none 0 0) := blk_cell hbox 3
    have hf3 := blk_frozen hbox 3
    have hs4 : w5.cell? ⟨G, 4, none⟩ = some (.slice none 0 0) := blk_cell hbox 4
    have hf4 := blk_frozen hbox 4
    refine skip_ (w1 := ?_) (by rfl) rfl ?_ ?_
    rotate_left
    ·go_simp
     rfl
    refine hK.out _ _ ?_
    clear hK K
    refine done_ (by kernel_rfl) ?_
    go_wp2
    go_meet
    case rel => exact ⟨G, X, y, rfl, by have := HB.size; have := HG.out; omega, w5_blk hbox, (o.to ⟨hb5⟩).w5 hbox (by simp [HW0]) _ _ _ _ _, HB5.then_wi (w5_wi _ G _ _ _ _ _) (by have := HB.size; have := HG.out; omega)⟩
   ·refine box_step ?hg (N := 4) ?hd (cs := #[.int .i64 0, .slice none 0 0, .slice none 0 0, .slice none 0 0, .slice none 0 0]) (t := 39) ?hr ?_; (case hd => rfl); (case hg => rfl); (case hr => first | (go_simp; done) | (go_simp; rfl))
    intro G hG w5 hbox hb5
    have HG := hid hG
    clear hG
    have HW5 := (Bw.drawn (a := W0) ⟨⟨1, rfl⟩⟩).trans ⟨hb5⟩
    refine hK.out _ _ ⟨pw_cell_below HW5.out x0, pw_cell_below HW5.out x5⟩ (fun hHeld => ?_)
    clear hK K; refine norm_ (a' := ?_) ?_ ?_; rotate_left; (show Act.put _ (some 4) _ = _; simp only [Act.put, s1_, s2_, s3_, i64_w, i32_w]; rfl)
    refine one_ (i := 9) (N := (some 20)) #[true, true, true, true, true, true, true, true, true, true, false, true, false] rfl rfl (by kernel_rfl) (by decide) (fun K hK => ?_)
    refine goes_ Try.func35 (by kernel_rfl) rfl #[.slice Ab nb cb] (by rfl) rfl rfl (by (try simp only [List.map_toArray, List.map_cons, List.map_nil]); first | done | rfl) ?_
    refine (cloneInts Ab nb cb bd _ (hb.to HW5) (by omega)).mono ?_
    rintro e w' ⟨v, rfl, o, b⟩
    obtain ⟨X, y, rfl, _, _⟩ := (FO.reads (t := 3) (k := 1) ⟨o.out⟩)
    refine ⟨_, rfl, ?_⟩
    replace hbox := (b.out.block _ (blk_lt hbox)).trans hbox
    have HB := HW5.trans b
    refine hK.out _ _ ⟨pw_cell_below HB.out x0, pw_cell_below HB.out x5⟩ (fun hHeld => ?_)
    clear hK K; refine norm_ (a' := ?_) ?_ ?_; rotate_left; (show Act.put _ (some 20) _ = _; simp only [Act.put, s1_, s2_, s3_, i64_w, i32_w]; rfl)
    refine pq_ (i := 10) (N := (some 21)) (v := ?_) (a' := ?_) rfl rfl (by kernel_rfl) (fun _ _ _ h => h) (Or.inl ⟨by rfl, ?_⟩) ?_ ?_
    rotate_left; (intro w'; go_simp; with_reducible rfl); rotate_left; (simp only [Act.put, s1_, s2_, s3_, i64_w, i32_w]; rfl)
    refine last_ (i := 12) (N := none) #[true, true, true, true, true, true, true, true, true, true, true, true, true] rfl rfl (by kernel_rfl) (by decide) (fun K hK => ?_)
    have hs0 : w'.cell? ⟨G, 0, none⟩ = some (.int .i64 0) := blk_cell hbox 0
    have hf0 := blk_frozen hbox 0
    have hs1 : w'.cell? ⟨G, 1, none⟩ = some (.slice none 0 0) := blk_cell hbox 1
    have hf1 := blk_frozen hbox 1
    have hs2 : w'.cell? ⟨G, 2, none⟩ = some (.slice none 0 0) := blk_cell hbox 2
    have hf2 := blk_frozen hbox 2
    have hs3 : w'.cell? ⟨G, 3, none⟩ = some (.slice none 0 0) := blk_cell hbox 3
    have hf3 := blk_frozen hbox 3
    have hs4 : w'.cell? ⟨G, 4, none⟩ = some (.slice none 0 0) := blk_cell hbox 4
    have hf4 := blk_frozen hbox 4
    refine skip_ (w1 := ?_) (by rfl) rfl ?_ ?_
    rotate_left
    ·go_simp
     rfl
    refine hK.out _ _ ?_
    clear hK K
    refine done_ (by kernel_rfl) ?_
    go_wp2
    go_meet
    case rel => exact ⟨G, X, y, rfl, by have := HG.out; simp at this; omega, w5_blk hbox, o.w5 hbox (by have := HW5.size; omega) _ _ _ _ _, HB.then_wi (w5_wi _ G _ _ _ _ _) (by have := HG.out; simp at this; omega)⟩
  case rest =>
   obtain ⟨G, X, y, rfl, hG, hk, ho, HB⟩ := hcut
   have hX := Bx.start hG hk ((HB.out.block _ (blk_lt k0)).trans k0) (by rw [hbl]; exact ho) (bR.trans HB)
   have HE0 : Hid (joinOk L = (agree L ro bd (n - 0) 0 && staOk ro (lvTo L n) (msTo L n) (tsTo L n) bd)) := hid (by rw [joinOk, hl, hro, hbd, decide_eq_true hp2, Bool.true_and]; rfl)
   have HR := hid hro
   have HBD := hid hbd
   have HL := hid hl
   have HLB := hid hbl
   have HN := hid hn
   clear hro hbd hl hk ho HB hb k0 bR x0 x5 hsz hG ha hn hbl
   go_wp2
   go_loopw [24] (fun v24 wr => ∃ (j : Nat) (vl vm vt : Value), j ≤ n ∧ v24 = .int .i64 j ∧ Hid (joinOk L = (agree L ro bd (n - j) j && staOk ro (lvTo L n) (msTo L n) (tsTo L n) bd)) ∧ Hid (Bx w wr G ro vl (lvTo L j) vm (msTo L j) vt (tsTo L j) (.slice X nb y) bd)) (fun v24 _ => n - (intOf v24).toNat)
   case atStart => exact ⟨0, _, _, _, by omega, rfl, HE0, hid hX⟩
   case round =>
    obtain ⟨j, vl, vm, vt, hj, rfl, hE, HX⟩ := hrel
    clear hX HE0
    have hX := HX.out
    clear HX
    by_cases hlt : j < n
    ·have t1 : decide ((j : Int) < (n : Int)) = true := decide_eq_true (by omega)
     obtain ⟨ad2, e, Al, nl, cl, Am, nm, cm, At, nt, ct, A5, n5, c5, Ag, ng, cg, x0, x1, x2, x3, x4, x5, x6, _, hv⟩ := r.nat j hlt
     obtain rfl := Option.some.inj e
     clear e
     replace x0 := pw_cell_below hX.B.out x0
     replace x1 := pw_cell_below hX.B.out x1
     replace x2 := pw_cell_below hX.B.out x2
     replace x3 := pw_cell_below hX.B.out x3
     replace x4 := pw_cell_below hX.B.out x4
     replace x5 := pw_cell_below hX.B.out x5
     replace x6 := pw_cell_below hX.B.out x6
     have hnext : Hid (joinOk L = (((decide ((gv L j).ro = ro) && decide ((gv L j).bd = bd)) && agree L ro bd (n - (j + 1)) (j + 1)) && staOk ro (lvTo L n) (msTo L n) (tsTo L n) bd)) := hid (by rw [hE.out, show n - j = (n - (j + 1)) + 1 by omega, agree])
     have q1 := lvTo_snoc (L := L) (j := j) (by rw [HL.out]; exact hlt)
     have q2 := msTo_snoc (L := L) (j := j) (by rw [HL.out]; exact hlt)
     have q3 := tsTo_snoc (L := L) (j := j) (by rw [HL.out]; exact hlt)
     have hsum := szTo_split L r.thirds (j + 1) (by rw [HL.out]; omega)
     have hmono := szTo_mono L n (j + 1) (by omega)
     have hNN := HN.out
     rw [q1, q2, q3] at hsum
     simp only [List.length_append] at hsum
     have l1 := ceL_len hv.l.len
     have l2 := hv.m.len
     have l3 := hv.t.len
     have hl1 : (lvTo L j).length + nl ≤ 1000000000 := by omega
     have hl2 : (msTo L j).length + nm ≤ 1000000000 := by omega
     have hl3 : (tsTo L j).length + nt ≤ 1000000000 := by omega
     have hIR : IdR w Al nl (ceL (gv L j)) := FR.id (by rw [ceL_f hv.l.len]; exact hv.l)
     have hMR := hv.m
     have hTR := hv.t
     have hBR := hv.b
     have Q1 := hid q1
     have Q2 := hid q2
     have Q3 := hid q3
     clear q1 q2 q3 hsum hmono hNN l1 l2 l3 hv hE
     generalize gv L j = x at *
     have b6 := Bw.box1 wr (.cells #[.int .i64 x.ro, .int .i64 x.fr, .slice Al nl cl, .slice Am nm cm, .slice At nt ct, .slice A5 n5 c5, .slice Ag ng cg] 46)
     replace hX := hX.to b6
     have hV := (box_blk (Bw.refl (wr.alloc (.cells #[.int .i64 x.ro, .int .i64 x.fr, .slice Al nl cl, .slice Am nm cm, .slice At nt ct, .slice A5 n5 c5, .slice Ag ng cg] 46))))
     clear b6
     have r0 := blk_cell (hX).res 0
     have rf0 := blk_frozen (hX).res 0
     have r1 := blk_cell (hX).res 1
     have rf1 := blk_frozen (hX).res 1
     have r2 := blk_cell (hX).res 2
     have rf2 := blk_frozen (hX).res 2
     have r3 := blk_cell (hX).res 3
     have rf3 := blk_frozen (hX).res 3
     have r4 := blk_cell (hX).res 4
     have rf4 := blk_frozen (hX).res 4
     have s0 := blk_cell (hX).blk 0
     have sf0 := blk_frozen (hX).blk 0
     have s1 := blk_cell (hX).blk 1
     have sf1 := blk_frozen (hX).blk 1
     have s2 := blk_cell (hX).blk 2
     have sf2 := blk_frozen (hX).blk 2
     have s3 := blk_cell (hX).blk 3
     have sf3 := blk_frozen (hX).blk 3
     have s4 := blk_cell (hX).blk 4
     have sf4 := blk_frozen (hX).blk 4
     simp only [List.getElem?_toArray, List.getElem?_cons_zero, List.getElem?_cons_succ] at r0 r1 r2 r3 r4 s0 s1 s2 s3 s4
     have g0 := blk_cell hV 0
     have g2 := blk_cell hV 2
     have g3 := blk_cell hV 3
     have g4 := blk_cell hV 4
     have g5 := blk_cell hV 5
     simp only [List.getElem?_toArray, List.getElem?_cons_zero, List.getElem?_cons_succ] at g0 g2 g3 g4 g5
     by_cases e1 : x.ro = ro
     case neg =>
      have HJ : Hid (joinOk L = false) := hid (by rw [hnext.out, decide_eq_false e1]; rfl)
      have t2 : (x.ro != ro) = true := neT e1
      have HXX := hid hX
      clear hX hnext hIR hMR hTR hBR g2 g3 g4 Q1 Q2 Q3 e1
      go_wp2
      refine bodyPost_ret (v := .tuple #[.agg #[.int .i64 0, .slice none 0 0, .slice none 0 0, .slice none 0 0, .slice none 0 0], .bool false]) ?_ rfl (Joined.no HJ.out (HXX.out.B.then_wi (w5_wi _ _ _ _ _ _ _) (Nat.le_refl _)))
      exact results_ct (p := 2) (u := 3) rfl _ _ w.heap.size 39 #[.int .i64 0, .slice none 0 0, .slice none 0 0, .slice none 0 0, .slice none 0 0] (0, 0) _ rfl (w5_blk HXX.out.res) Try.underlying39 rfl (by kernel_rfl)
     have t2 : (x.ro != ro) = false := neF e1
     have hro := hid e1
     clear e1
     go_wp2_with fail
     refine (impl_Equal A5 n5 c5 x.bd X nb y bd _ (hBR.to hX.B) (by have := (FO.fr (t := 3) (k := 1) ⟨hX.hb.out⟩).ri; rw [HLB.out] at this; exact this)).mono ?_
     rintro e w7 ⟨rfl, d7⟩
     have b7 := Bw.drawn d7
     clear r0 r1 r2 r3 r4 rf0 rf1 rf2 rf3 rf4 s0 s1 s2 s3 s4 sf0 sf1 sf2 sf3 sf4 g0 g2 g3 g4 g5 x0 x1 x2 x3 x4 x5 x6
     generalize wr.heap.size = V0 at *
     replace hX := hX.to b7
     replace hV := (b7.out.block _ (blk_lt hV)).trans hV
     clear b7 d7
     have r0 := blk_cell (hX).res 0
     have rf0 := blk_frozen (hX).res 0
     have r1 := blk_cell (hX).res 1
     have rf1 := blk_frozen (hX).res 1
     have r2 := blk_cell (hX).res 2
     have rf2 := blk_frozen (hX).res 2
     have r3 := blk_cell (hX).res 3
     have rf3 := blk_frozen (hX).res 3
     have r4 := blk_cell (hX).res 4
     have rf4 := blk_frozen (hX).res 4
     have s0 := blk_cell (hX).blk 0
     have sf0 := blk_frozen (hX).blk 0
     have s1 := blk_cell (hX).blk 1
     have sf1 := blk_frozen (hX).blk 1
     have s2 := blk_cell (hX).blk 2
     have sf2 := blk_frozen (hX).blk 2
     have s3 := blk_cell (hX).blk 3
     have sf3 := blk_frozen (hX).blk 3
     have s4 := blk_cell (hX).blk 4
     have sf4 := blk_frozen (hX).blk 4
     simp only [List.getElem?_toArray, List.getElem?_cons_zero, List.getElem?_cons_succ] at r0 r1 r2 r3 r4 s0 s1 s2 s3 s4
     have g0 := blk_cell hV 0
     have g2 := blk_cell hV 2
     have g3 := blk_cell hV 3
     have g4 := blk_cell hV 4
     have g5 := blk_cell hV 5
     simp only [List.getElem?_toArray, List.getElem?_cons_zero, List.getElem?_cons_succ] at g0 g2 g3 g4 g5
     by_cases e2 : x.bd = bd
     case neg =>
      have HJ : Hid (joinOk L = false) := hid (by rw [hnext.out, hro.out, decide_eq_true rfl, decide_eq_false e2]; rfl)
      rw [decide_eq_false e2]
      have HXX := hid hX
      clear hX hnext hIR hMR hTR hBR g2 g3 g4 Q1 Q2 Q3 e2
      go_wp2
      refine bodyPost_ret (v := .tuple #[.agg #[.int .i64 0, .slice none 0 0, .slice none 0 0, .slice none 0 0, .slice none 0 0], .bool false]) ?_ rfl (Joined.no HJ.out (HXX.out.B.then_wi (w5_wi _ _ _ _ _ _ _) (Nat.le_refl _)))
      exact results_ct (p := 2) (u := 3) rfl _ _ w.heap.size 39 #[.int .i64 0, .slice none 0 0, .slice none 0 0, .slice none 0 0, .slice none 0 0] (0, 0) _ rfl (w5_blk HXX.out.res) Try.underlying39 rfl (by kernel_rfl)
     have hE' : Hid (joinOk L = (agree L ro bd (n - (j + 1)) (j + 1) && staOk ro (lvTo L n) (msTo L n) (tsTo L n) bd)) := hid (by rw [hnext.out, hro.out, e2, decide_eq_true rfl, decide_eq_true rfl]; rfl)
     rw [decide_eq_true e2]
     clear e2 hnext hro
     have HVG := hid (blk_ne hV hX.blk (by decide))
     go_upto_region 10 with (at_builtin; refine appendIds (w0 := w) w.heap.size rfl _ _ rfl vl (lvTo L j) (ceL x) Al nl cl rfl rfl hX.hl (hIR.to hX.B) hX.B.out hX.B.size hl1 ?_; intro v1 w8 ho8 hB8 hg8 ha8; obtain ⟨X1, y1, rfl, _, _⟩ := (FO.reads ho8); clear s0 s1 s2 s3 s4 sf0 sf1 sf2 sf3 sf4 g0 g2 g3 g4 g5; have hk8 := blk_grown hX.blk hg8 (own_ne hX.hl.out hX.blk (by decide)); have hV8 := blk_grown hV hg8 (own_ne hX.hl.out hV (by decide)); have s0 := blk_cell hk8 0; have s1 := blk_cell hk8 1; have s2 := blk_cell hk8 2; have s3 := blk_cell hk8 3; have s4 := blk_cell hk8 4; have sf0 := blk_frozen hk8 0; have sf1 := blk_frozen hk8 1; have sf2 := blk_frozen hk8 2; have sf3 := blk_frozen hk8 3; have sf4 := blk_frozen hk8 4; have g0 := blk_cell hV8 0; have g2 := blk_cell hV8 2; have g3 := blk_cell hV8 3; have g4 := blk_cell hV8 4; have g5 := blk_cell hV8 5; simp only [List.getElem?_toArray, List.getElem?_cons_zero, List.getElem?_cons_succ] at s0 s1 s2 s3 s4 g0 g2 g3 g4 g5)
     replace hX := hX.setL ho8 hB8 hg8 ha8
     replace hV := blk_far hV8 (p := ⟨G, 1, none⟩) HVG.out (.slice X1 ((lvTo L j ++ (ceL x)).length) y1)
     clear s0 s1 s2 s3 s4 sf0 sf1 sf2 sf3 sf4 g0 g2 g3 g4 g5 hk8 hV8 ho8 hB8 hg8 ha8
     simp only [List.length_append] at hX hV
     generalize (w8.setCell ⟨G, 1, none⟩ (.slice X1 ((lvTo L j).length + (ceL x).length) y1)) = w9 at *
     have s0 := blk_cell hX.blk 0
     have s1 := blk_cell hX.blk 1
     have s2 := blk_cell hX.blk 2
     have s3 := blk_cell hX.blk 3
     have s4 := blk_cell hX.blk 4
     have sf0 := blk_frozen hX.blk 0
     have sf1 := blk_frozen hX.blk 1
     have sf2 := blk_frozen hX.blk 2
     have sf3 := blk_frozen hX.blk 3
     have sf4 := blk_frozen hX.blk 4
     have g0 := blk_cell hV 0
     have g2 := blk_cell hV 2
     have g3 := blk_cell hV 3
     have g4 := blk_cell hV 4
     have g5 := blk_cell hV 5
     simp only [List.getElem?_toArray, List.getElem?_cons_zero, List.getElem?_cons_succ] at s0 s1 s2 s3 s4 g0 g2 g3 g4 g5
     go_upto_region 11 with (at_builtin; refine appendInts (w0 := w) w.heap.size rfl _ _ rfl vm (msTo L j) x.ms Am nm cm rfl rfl hX.hm (hMR.to hX.B) hX.B.out hX.B.size hl2 ?_; intro v1 w8 ho8 hB8 hg8 ha8; obtain ⟨X2, y2, rfl, _, _⟩ := (FO.reads (t := 3) (k := 1) ⟨ho8.out⟩); clear s0 s1 s2 s3 s4 sf0 sf1 sf2 sf3 sf4 g0 g2 g3 g4 g5; have hk8 := blk_grown hX.blk hg8 (own_ne hX.hm.out hX.blk (by decide)); have hV8 := blk_grown hV hg8 (own_ne hX.hm.out hV (by decide)); have s0 := blk_cell hk8 0; have s1 := blk_cell hk8 1; have s2 := blk_cell hk8 2; have s3 := blk_cell hk8 3; have s4 := blk_cell hk8 4; have sf0 := blk_frozen hk8 0; have sf1 := blk_frozen hk8 1; have sf2 := blk_frozen hk8 2; have sf3 := blk_frozen hk8 3; have sf4 := blk_frozen hk8 4; have g0 := blk_cell hV8 0; have g2 := blk_cell hV8 2; have g3 := blk_cell hV8 3; have g4 := blk_cell hV8 4; have g5 := blk_cell hV8 5; simp only [List.getElem?_toArray, List.getElem?_cons_zero, List.getElem?_cons_succ] at s0 s1 s2 s3 s4 g0 g2 g3 g4 g5)
     replace hX := hX.setM ho8 hB8 hg8 ha8
     replace hV := blk_far hV8 (p := ⟨G, 2, none⟩) HVG.out (.slice X2 ((msTo L j ++ x.ms).length) y2)
     clear s0 s1 s2 s3 s4 sf0 sf1 sf2 sf3 sf4 g0 g2 g3 g4 g5 hk8 hV8 ho8 hB8 hg8 ha8
     simp only [List.length_append] at hX hV
     generalize (w8.setCell ⟨G, 2, none⟩ (.slice X2 ((msTo L j).length + x.ms.length) y2)) = w9 at *
     have s0 := blk_cell hX.blk 0
     have s1 := blk_cell hX.blk 1
     have s2 := blk_cell hX.blk 2
     have s3 := blk_cell hX.blk 3
     have s4 := blk_cell hX.blk 4
     have sf0 := blk_frozen hX.blk 0
     have sf1 := blk_frozen hX.blk 1
     have sf2 := blk_frozen hX.blk 2
     have sf3 := blk_frozen hX.blk 3
     have sf4 := blk_frozen hX.blk 4
     have g0 := blk_cell hV 0
     have g2 := blk_cell hV 2
     have g3 := blk_cell hV 3
     have g4 := blk_cell hV 4
     have g5 := blk_cell hV 5
     simp only [List.getElem?_toArray, List.getElem?_cons_zero, List.getElem?_cons_succ] at s0 s1 s2 s3 s4 g0 g2 g3 g4 g5
     go_wp2_with (at_builtin; refine appendInts (w0 := w) w.heap.size rfl _ _ rfl vt (tsTo L j) x.ts At nt ct rfl rfl hX.ht (hTR.to hX.B) hX.B.out hX.B.size hl3 ?_; intro v1 w8 ho8 hB8 hg8 ha8; obtain ⟨X3, y3, rfl, _, _⟩ := (FO.reads (t := 3) (k := 1) ⟨ho8.out⟩); clear s0 s1 s2 s3 s4 sf0 sf1 sf2 sf3 sf4 g0 g2 g3 g4 g5; have hk8 := blk_grown hX.blk hg8 (own_ne hX.ht.out hX.blk (by decide)); have hV8 := blk_grown hV hg8 (own_ne hX.ht.out hV (by decide)); have s0 := blk_cell hk8 0; have s1 := blk_cell hk8 1; have s2 := blk_cell hk8 2; have s3 := blk_cell hk8 3; have s4 := blk_cell hk8 4; have sf0 := blk_frozen hk8 0; have sf1 := blk_frozen hk8 1; have sf2 := blk_frozen hk8 2; have sf3 := blk_frozen hk8 3; have sf4 := blk_frozen hk8 4; have g0 := blk_cell hV8 0; have g2 := blk_cell hV8 2; have g3 := blk_cell hV8 3; have g4 := blk_cell hV8 4; have g5 := blk_cell hV8 5; simp only [List.getElem?_toArray, List.getElem?_cons_zero, List.getElem?_cons_succ] at s0 s1 s2 s3 s4 g0 g2 g3 g4 g5)
     replace hX := hX.setT ho8 hB8 hg8 ha8
     replace hV := blk_far hV8 (p := ⟨G, 3, none⟩) HVG.out (.slice X3 ((tsTo L j ++ x.ts).length) y3)
     clear s0 s1 s2 s3 s4 sf0 sf1 sf2 sf3 sf4 g0 g2 g3 g4 g5 hk8 hV8 ho8 hB8 hg8 ha8
     go_roundw
     case rel => exact ⟨j + 1, _, _, _, by omega, by go_num, hE', hid (by rw [Q1.out, Q2.out, Q3.out]; simp only [List.length_append] at hX ⊢; exact hX)⟩
     case measure => simp [intOf]; omega
    ·obtain rfl : j = n := by omega
     have t1 : decide ((j : Int) < (j : Int)) = false := decide_eq_false (by omega)
     obtain ⟨Xl, yl, e1, _, f1⟩ := hX.hl.reads
     obtain ⟨Xm, ym, e2, _, f2⟩ := FO.reads (t := 3) (k := 1) ⟨hX.hm.out⟩
     obtain ⟨Xt, yt, e3, _, f3⟩ := FO.reads (t := 3) (k := 1) ⟨hX.ht.out⟩
     subst e1 e2 e3
     have f4 := FO.fr (t := 3) (k := 1) ⟨hX.hb.out⟩
     have hS : Hid (joinOk L = staOk ro (lvTo L j) (msTo L j) (tsTo L j) bd) := hid (by rw [hE.out, Nat.sub_self]; rfl)
     clear hE
     have r0 := blk_cell hX.res 0
     have rf0 := blk_frozen hX.res 0
     have r1 := blk_cell hX.res 1
     have rf1 := blk_frozen hX.res 1
     have r2 := blk_cell hX.res 2
     have rf2 := blk_frozen hX.res 2
     have r3 := blk_cell hX.res 3
     have rf3 := blk_frozen hX.res 3
     have r4 := blk_cell hX.res 4
     have rf4 := blk_frozen hX.res 4
     have s0 := blk_cell hX.blk 0
     have sf0 := blk_frozen hX.blk 0
     have s1 := blk_cell hX.blk 1
     have sf1 := blk_frozen hX.blk 1
     have s2 := blk_cell hX.blk 2
     have sf2 := blk_frozen hX.blk 2
     have s3 := blk_cell hX.blk 3
     have sf3 := blk_frozen hX.blk 3
     have s4 := blk_cell hX.blk 4
     have sf4 := blk_frozen hX.blk 4
     simp only [List.getElem?_toArray, List.getElem?_cons_zero, List.getElem?_cons_succ] at r0 r1 r2 r3 r4 s0 s1 s2 s3 s4
     go_wp2_with fail
     refine (impl_StateOk ro Xl _ yl (lvTo L j) Xm _ ym (msTo L j) Xt _ yt (tsTo L j) X nb y bd _ f1.id f2.ri f3.ri (by rw [← HLB.out]; exact f4.ri)).mono ?_
     rintro e w7 ⟨rfl, b7⟩
     clear r0 r1 r2 r3 r4 rf0 rf1 rf2 rf3 rf4 s0 s1 s2 s3 s4 sf0 sf1 sf2 sf3 sf4
     clear f1 f2 f3 f4
     replace hX := hX.to b7
     clear b7
     have r0 := blk_cell hX.res 0
     have rf0 := blk_frozen hX.res 0
     have r1 := blk_cell hX.res 1
     have rf1 := blk_frozen hX.res 1
     have r2 := blk_cell hX.res 2
     have rf2 := blk_frozen hX.res 2
     have r3 := blk_cell hX.res 3
     have rf3 := blk_frozen hX.res 3
     have r4 := blk_cell hX.res 4
     have rf4 := blk_frozen hX.res 4
     have s0 := blk_cell hX.blk 0
     have sf0 := blk_frozen hX.blk 0
     have s1 := blk_cell hX.blk 1
     have sf1 := blk_frozen hX.blk 1
     have s2 := blk_cell hX.blk 2
     have sf2 := blk_frozen hX.blk 2
     have s3 := blk_cell hX.blk 3
     have sf3 := blk_frozen hX.blk 3
     have s4 := blk_cell hX.blk 4
     have sf4 := blk_frozen hX.blk 4
     simp only [List.getElem?_toArray, List.getElem?_cons_zero, List.getElem?_cons_succ] at r0 r1 r2 r3 r4 s0 s1 s2 s3 s4
     rw [← hS.out]
     cases hJ : joinOk L with
     | false =>
      have HJ := hid hJ
      have HXX := hid hX
      clear hJ hS hX
      go_wp2
      refine bodyPost_ret (v := .tuple #[.agg #[.int .i64 0, .slice none 0 0, .slice none 0 0, .slice none 0 0, .slice none 0 0], .bool false]) ?_ rfl (Joined.no HJ.out (HXX.out.B.then_wi (w5_wi _ _ _ _ _ _ _) (Nat.le_refl _)))
      exact results_ct (p := 2) (u := 3) rfl _ _ w.heap.size 39 #[.int .i64 0, .slice none 0 0, .slice none 0 0, .slice none 0 0, .slice none 0 0] (0, 0) _ rfl (w5_blk HXX.out.res) Try.underlying39 rfl (by kernel_rfl)
     | true =>
      have HJ := hid hJ
      have HXX := hid hX
      clear hJ hS hX
      go_wp2
      refine bodyPost_ret (v := .tuple #[.agg #[.int .i64 ro, .slice Xl (lvTo L j).length yl, .slice Xm (msTo L j).length ym, .slice Xt (tsTo L j).length yt, .slice X nb y], .bool true]) ?_ rfl (Joined.yes HL.out HJ.out HR.out HBD.out HXX.out)
      exact results_ct (p := 2) (u := 3) rfl _ _ w.heap.size 39 #[.int .i64 ro, .slice Xl (lvTo L j).length yl, .slice Xm (msTo L j).length ym, .slice Xt (tsTo L j).length yt, .slice X nb y] (0, 0) _ rfl (w5_blk HXX.out.res) Try.underlying39 rfl (by kernel_rfl)
end Go.Proofs.Ytgdkffddcbjmmaa.U
