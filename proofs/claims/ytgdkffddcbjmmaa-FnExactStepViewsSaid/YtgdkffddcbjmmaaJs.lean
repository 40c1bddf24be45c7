
/- JoinViews, by the reference. -/
import Derived.Test.YtgdkffddcbjmmaaJi
set_option linter.unusedVariables false
set_option linter.unusedSimpArgs false
namespace Go.Proofs.Ytgdkffddcbjmmaa.U
open Go.RowKit Go.Lib Go.Proofs.YtgdkffddcbjmmaaW.PrintWords
open Go.Proofs.YtgdkffddcbjmmaaW.PrintLast Go.Proofs.YtgdkffddcbjmmaaW.PrintMore
theorem quietDB {P : Program} {f : FuncId} {args : Array Value} {w : World} {n : Nat} {b c : Bool} (h : Calls P f args (w.drewN n) fun e w' => e = .returned (.bool b) ∧ Drawn0 (w.drewN n) w') (e0 : b = c) : Calls P f args (w.drewN n) fun e w'' => e = .returned (.bool c) ∧ ∃ m, w'' = w.drewN m :=
 h.mono fun e w' h => ⟨by rw [← e0]; exact h.1, by obtain ⟨⟨k, rfl⟩⟩ := h.2; exact ⟨n + k, by rw [World.drewN_drewN]⟩⟩
theorem OI.less0 {w : World} {base base' n : Nat} {v : Value} {l : List Int} (h : OI w base v n l) (hb : base' ≤ base) : OI w base' v n l := ⟨own_less h.out hb⟩
section
variable {P : Program} {ops : Array Oper} {o : Oper} {a : Act} {Q : Exit → Act → World → Prop} {Kc : Act → World → Prop}
theorem lit0_step {W : World} (hw : Region.wanted o (yielded ops a.tmps) = true) {N : Tmp} (_hd : o.dst = some N) {e : TypeId}
  (hrun : (execOp a.eval o).run P W = .ok (.value (.slice (some ⟨W.heap.size, 0, none⟩) 0 0)) (W.alloc (.cells #[] 3)))
  (h : ∀ X y w1, OI w1 W.heap.size (.slice X 0 y) 0 [] → Bw W w1 → Kc (a.put o.dst (.slice X 0 y)) w1) : if Region.wanted o (yielded ops a.tmps) = true then Oper.wp P o a W Kc Q else Kc (a.put o.dst undef) W :=
 event_step hw hrun (h _ _ _ ⟨World.ownsRow_lit (base := W.heap.size) (e := 3) (size := 1) W #[] 0 (Nat.le_refl _) (by simp [maxLen]) (by simp)⟩ ((Bw.refl W).alloc _))
end
set_option maxHeartbeats 8000000 in
set_option maxRecDepth 100000 in
theorem spec_JoinViews (A : Option Addr) (n c : Nat) (L : List Vf) (w : World) (r : VwR w A n L) (hn : n + szTo L n ≤ 1048576) :
  Calls Try.prog 12 #[.slice A n c] w (Joined L w) := by
 have hl := r.len
 have hmax := r.max
 have bR := Bw.box1 w (.cells #[.int .i64 0, .slice none 0 0, .slice none 0 0, .slice none 0 0, .slice none 0 0] 39)
 have k0 := heap_alloc_new w (.cells #[.int .i64 0, .slice none 0 0, .slice none 0 0, .slice none 0 0, .slice none 0 0] 39 (0, 0))
 by_cases h0 : n = 0
 ·subst h0
  have hj : joinOk L = false := by simp [joinOk, hl]
  have HJ := hid hj
  clear hj hl
  go_enter Try.func12, Try.ntmps12
  go_wp2
  refine bodyPost_ret (v := .tuple #[.agg #[.int .i64 0, .slice none 0 0, .slice none 0 0, .slice none 0 0, .slice none 0 0], .bool false]) ?_ rfl (Joined.no HJ.out bR)
  exact results_ct (p := 2) (u := 3) rfl _ _ w.heap.size 39 #[.int .i64 0, .slice none 0 0, .slice none 0 0, .slice none 0 0, .slice none 0 0] (0, 0) _ rfl k0 Try.underlying39 rfl (by kernel_rfl)
 ·have t0 : ((n : Int) == 0) = false := by simp [h0]
  obtain ⟨ad, rfl, Al, nl, cl, Am, nm, cm, At, nt, ct, Ab, nb, cb, Ag, ng, cg, x0, x1, x2, x3, x4, x5, x6, _, hv⟩ := (r.to bR).nat 0 (by omega)
  have ha : ad.add (0 * 7) = ad := by rw [Nat.zero_mul]; rfl
  rw [ha] at x0 x1 x2 x3 x4 x5 x6
  have hp : (0 : Int) < (n : Int) := by omega
  have hp2 : 0 < n := by omega
  have hp3 : ¬ n = 0 := by omega
  have hsz : nb ≤ 1048576 := by
   have := hv.b.len
   have := szTo_le L n 0 (by omega)
   rw [vsz] at this
   omega
  have hb := hv.b
  have hbl := hv.b.len
  clear hv x1 x2 x3 x4 x6
  obtain ⟨bd, hbd⟩ : ∃ bd, (gv L 0).bd = bd := ⟨_, rfl⟩
  obtain ⟨ro, hro⟩ : ∃ ro, (gv L 0).ro = ro := ⟨_, rfl⟩
  rw [hbd] at hb hbl
  rw [hro] at x0
  go_enter Try.func12, Try.ntmps12
  go_upto_region 3 with fail
  have HW0 : Hid ((w.alloc (.cells #[.int .i64 0, .slice none 0 0, .slice none 0 0, .slice none 0 0, .slice none 0 0] 39)).heap.size = w.heap.size + 1) := hid (by simp)
  generalize (w.alloc (.cells #[.int .i64 0, .slice none 0 0, .slice none 0 0, .slice none 0 0, .slice none 0 0] 39)) = W0 at *
  go_cut [4] from 10 to 21 (fun v4 wx => ∃ (G : Nat) (X : Option Addr) (y : Nat), v4 = .pointer (some ⟨G, 0, none⟩) ∧ w.heap.size < G ∧ wx.heap[G]? = some (.cells #[.int .i64 ro, .slice none 0 0, .slice none 0 0, .slice none 0 0, .slice X nb y] 39 (0, 0)) ∧ OI wx w.heap.size (.slice X nb y) nb bd ∧ Bw W0 wx)
  case first =>
   refine start_ (n := 14) (S := fun w' => w'.cell? ad = some (.int .i64 ro) ∧ w'.cell? ⟨ad.block, ad.off + 5, none⟩ = some (.slice Ab nb cb)) (ds := [13]) #[false, false, false, false, false, false, false, false, false, false, false, false, false, false] (by kernel_rfl) rfl rfl ⟨x0, x5⟩ (fun hHeld => ?_)
   refine pq_ (i := 0) (N := (some 10)) (v := ?_) (a' := ?_) rfl rfl (by kernel_rfl) (fun _ _ _ h => h) (Or.inl ⟨by rfl, ?_⟩) ?_ ?_
   rotate_left; (intro w'; go_simp; with_reducible rfl); rotate_left; (simp only [Act.put, s1_, s2_, s3_, i64_w, i32_w]; rfl)
   refine pq_ (i := 1) (N := (some 11)) (v := ?_) (a' := ?_) rfl rfl (by kernel_rfl) (fun _ _ _ h => h) (Or.inl ⟨by rfl, ?_⟩) ?_ ?_
   rotate_left; (intro w'; go_simp; with_reducible rfl); rotate_left; (simp only [Act.put, s1_, s2_, s3_, i64_w, i32_w]; rfl)
   refine pq_ (i := 2) (N := (some 12)) (v := ?_) (a' := ?_) rfl rfl (by kernel_rfl) (fun _ _ _ h => h) (Or.inl ⟨by rfl, ?_⟩) ?_ ?_
   rotate_left; (intro w'; go_simp; with_reducible rfl); rotate_left; (simp only [Act.put, s1_, s2_, s3_, i64_w, i32_w]; rfl)
   refine tq_ (i := 3) (N := (some 13)) (v := ?_) (a' := ?_) rfl rfl (by kernel_rfl) (fun _ _ _ h => h) (Or.inl ⟨by rfl, ?_⟩) hHeld ?_ ?_
   rotate_left; (rintro w' ⟨s0, s1⟩; go_simp; with_reducible rfl); rotate_left; (simp only [Act.put, s1_, s2_, s3_, i64_w, i32_w]; rfl)
   refine pq_ (i := 4) (N := (some 14)) (v := ?_) (a' := ?_) rfl rfl (by kernel_rfl) (fun _ _ _ h => h) (Or.inl ⟨by rfl, ?_⟩) ?_ ?_
   rotate_left; (intro w'; go_simp; with_reducible rfl); rotate_left; (simp only [Act.put, s1_, s2_, s3_, i64_w, i32_w]; rfl)
   refine pq_ (i := 6) (N := (some 16)) (v := ?_) (a' := ?_) rfl rfl (by kernel_rfl) (fun _ _ _ h => h) (Or.inl ⟨by rfl, ?_⟩) ?_ ?_
   rotate_left; (intro w'; go_simp; with_reducible rfl); rotate_left; (simp only [Act.put, s1_, s2_, s3_, i64_w, i32_w]; rfl)
   refine pq_ (i := 7) (N := (some 17)) (v := ?_) (a' := ?_) rfl rfl (by kernel_rfl) (fun _ _ _ h => h) (Or.inl ⟨by rfl, ?_⟩) ?_ ?_
   rotate_left; (intro w'; go_simp; with_reducible rfl); rotate_left; (simp only [Act.put, s1_, s2_, s3_, i64_w, i32_w]; rfl)
   refine pq_ (i := 8) (N := (some 18)) (v := ?_) (a' := ?_) rfl rfl (by kernel_rfl) (fun _ _ _ h => h) (Or.inl ⟨by rfl, ?_⟩) ?_ ?_
   rotate_left; (intro w'; go_simp; with_reducible rfl); rotate_left; (simp only [Act.put, s1_, s2_, s3_, i64_w, i32_w]; rfl)
   refine tq_ (i := 9) (N := (some 19)) (v := ?_) (a' := ?_) rfl rfl (by kernel_rfl) (fun _ _ _ h => h) (Or.inl ⟨by rfl, ?_⟩) hHeld ?_ ?_
   rotate_left; (rintro w' ⟨s0, s1⟩; go_simp; with_reducible rfl); rotate_left; (simp only [Act.put, s1_, s2_, s3_, i64_w, i32_w]; rfl)
   refine two_ (i := 5) (j := 12) (Ni := some 15) (Nj := some 4) #[true, true, true, true, true, true, true, true, true, true, false, false, false, false] #[true, true, true, true, true, false, true, true, true, true, false, false, true, false] rfl rfl rfl rfl (by kernel_rfl) (by decide) (by decide) (fun K hK => ?_) (fun K hK => ?_)
   ·refine lit0_step (N := 15) (e := 3) ?hg ?hd ?hr ?_; (case hd => rfl); (case hg => rfl); (case hr => first | (go_simp; done) | (go_simp; rfl))
    intro XL yL wL oL bL
    have HL5 := (Bw.drawn (a := W0) ⟨⟨1, rfl⟩⟩).trans bL
    refine hK.out _ _ ⟨pw_cell_below HL5.out x0, pw_cell_below HL5.out x5⟩ (fun hHeld => ?_)
    clear hK K; refine norm_ (a' := ?_) ?_ ?_; rotate_left; (show Act.put _ (some 15) _ = _; simp only [Act.put, s1_, s2_, s3_, i64_w, i32_w]; rfl)
    refine two_ (i := 10) (j := 12) (Ni := some 20) (Nj := some 4) #[true, true, true, true, true, true, true, true, true, true, true, false, false, false] #[true, true, true, true, true, true, true, true, true, true, false, false, true, false] rfl rfl rfl rfl (by kernel_rfl) (by decide) (by decide) (fun K hK => ?_) (fun K hK => ?_)
    ·refine appendInts_step (w0 := w) w.heap.size (by rfl) (.tmp 15) (.tmp 19) rfl (.slice XL 0 yL) [] bd Ab nb cb rfl rfl (OI.less0 oL (by have := HL5.size; have := HW0.out; simp at *; omega)) (hb.to HL5) (bR.trans HL5).out (bR.trans HL5).size (by simp; omega) ?_
     intro v1 w8 ho8 hB8 hg8 ha8
     obtain ⟨X, y, rfl, _, _⟩ := FO.reads (t := 3) (k := 1) ⟨ho8.out⟩
     have HB := Bw.grown HL5 hg8 (OI.less0 oL (Nat.le_refl _)) (by simp)
     refine hK.out _ _ ⟨pw_cell_below HB.out x0, pw_cell_below HB.out x5⟩ (fun hHeld => ?_)
     clear hK K; refine norm_ (a' := ?_) ?_ ?_; rotate_left; (show Act.put _ (some 20) _ = _; simp only [Act.put, s1_, s2_, s3_, i64_w, i32_w]; rfl)
     refine pq_ (i := 11) (N := (some 21)) (v := ?_) (a' := ?_) rfl rfl (by kernel_rfl) (fun _ _ _ h => h) (Or.inl ⟨by rfl, ?_⟩) ?_ ?_
     rotate_left; (intro w'; go_simp; with_reducible rfl); rotate_left; (simp only [Act.put, s1_, s2_, s3_, i64_w, i32_w]; rfl)
     refine one_ (i := 12) (N := (some 4)) #[true, true, true, true, true, true, true, true, true, true, true, true, true, false] rfl rfl (by kernel_rfl) (by decide) (fun K hK => ?_)
     refine box_step ?hg (N := 4) ?hd (cs := #[.int .i64 0, .slice none 0 0, .slice none 0 0, .slice none 0 0, .slice none 0 0]) (t := 39) ?hr ?_; (case hd => rfl); (case hg => rfl); (case hr => first | (go_simp; done) | (go_simp; rfl))
     intro G hG w5 hbox hb5
     have HG := hid hG
     clear hG
     have HB5 := HB.trans ⟨hb5⟩
     refine hK.out _ _ ⟨pw_cell_below HB5.out x0, pw_cell_below HB5.out x5⟩ (fun hHeld => ?_)
     clear hK K; refine norm_ (a' := ?_) ?_ ?_; rotate_left; (show Act.put _ (some 4) _ = _; simp only [Act.put, s1_, s2_, s3_, i64_w, i32_w]; rfl)
     refine last_ (i := 13) (N := none) #[true, true, true, true, true, true, true, true, true, true, true, true, true, true] rfl rfl (by kernel_rfl) (by decide) (fun K hK => ?_)
     have hs0 : w5.cell? ⟨G, 0, none⟩ = some (.int .i64 0) := blk_cell hbox 0
     have hf0 := blk_frozen hbox 0
     have hs1 : w5.cell? ⟨G, 1, none⟩ = some (.slice none 0 0) := blk_cell hbox 1
     have hf1 := blk_frozen hbox 1
     have hs2 : w5.cell? ⟨G, 2, none⟩ = some (.slice none 0 0) := blk_cell hbox 2
     have hf2 := blk_frozen hbox 2
     have hs3 : w5.cell? ⟨G, 3, none⟩ = some (.slice none 0 0) := blk_cell hbox 3
     have hf3 := blk_frozen hbox 3
     have hs4 : w5.cell? ⟨G, 4, none⟩ = some (.slice none 0 0) := blk_cell hbox 4
     have hf4 := blk_frozen hbox 4
     refine skip_ (w1 := ?_) (by rfl) rfl ?_ ?_
     rotate_left
     ·go_simp
      rfl
     refine hK.out _ _ ?_
     clear hK K
     refine done_ (by kernel_rfl) ?_
     go_wp2
     go_meet
     case rel => exact ⟨G, X, y, by simp, by have := HB.size; have := HG.out; have := HW0.out; omega, w5_blk hbox, by have := (ho8.to ⟨hb5⟩).w5 hbox (Nat.le_refl _) (.int .i64 ro) (.slice none 0 0) (.slice none 0 0) (.slice none 0 0) (.slice X nb y); simp only [List.nil_append, hbl] at this; exact this, HB5.then_wi (w5_wi _ G _ _ _ _ _) (by have := HB.size; have := HG.out; omega)⟩
    ·refine box_step ?hg (N := 4) ?hd (cs := #[.int .i64 0, .slice none 0 0, .slice none 0 0, .slice none 0 0, .slice none 0 0]) (t := 39) ?hr ?_; (case hd => rfl); (case hg => rfl); (case hr => first | (go_simp; done) | (go_simp; rfl))
     intro G hG w5 hbox hb5
     have HG := hid hG
     clear hG
     have HB5 := HL5.trans ⟨hb5⟩
     refine hK.out _ _ ⟨pw_cell_below HB5.out x0, pw_cell_below HB5.out x5⟩ (fun hHeld => ?_)
     clear hK K; refine norm_ (a' := ?_) ?_ ?_; rotate_left; (show Act.put _ (some 4) _ = _; simp only [Act.put, s1_, s2_, s3_, i64_w, i32_w]; rfl)
     refine one_ (i := 10) (N := (some 20)) #[true, true, true, true, true, true, true, true, true, true, true, false, true, false] rfl rfl (by kernel_rfl) (by decide) (fun K hK => ?_)
     refine appendInts_step (w0 := w) w.heap.size (by rfl) (.tmp 15) (.tmp 19) rfl (.slice XL 0 yL) [] bd Ab nb cb rfl rfl (OI.less0 (oL.to ⟨hb5⟩) (by have := HL5.size; have := HW0.out; simp at *; omega)) (hb.to HB5) (bR.trans HB5).out (bR.trans HB5).size (by simp; omega) ?_
     intro v1 w8 ho8 hB8 hg8 ha8
     obtain ⟨X, y, rfl, _, _⟩ := FO.reads (t := 3) (k := 1) ⟨ho8.out⟩
     have hk8 := blk_grown hbox hg8 (own_ne (oL.to ⟨hb5⟩).out hbox (by decide))
     clear hbox
     have hbox := hk8
     have HB := Bw.grown HB5 hg8 (OI.less0 (oL.to ⟨hb5⟩) (Nat.le_refl _)) (by simp)
     refine hK.out _ _ ⟨pw_cell_below HB.out x0, pw_cell_below HB.out x5⟩ (fun hHeld => ?_)
     clear hK K; refine norm_ (a' := ?_) ?_ ?_; rotate_left; (show Act.put _ (some 20) _ = _; simp only [Act.put, s1_, s2_, s3_, i64_w, i32_w]; rfl)
     refine pq_ (i := 11) (N := (some 21)) (v := ?_) (a' := ?_) rfl rfl (by kernel_rfl) (fun _ _ _ h => h) (Or.inl ⟨by rfl, ?_⟩) ?_ ?_
     rotate_left; (intro w'; go_simp; with_reducible rfl); rotate_left; (simp only [Act.put, s1_, s2_, s3_, i64_w, i32_w]; rfl)
     refine last_ (i := 13) (N := none) #[true, true, true, true, true, true, true, true, true, true, true, true, true, true] rfl rfl (by kernel_rfl) (by decide) (fun K hK => ?_)
     have hs0 : w8.cell? ⟨G, 0, none⟩ = some (.int .i64 0) := blk_cell hbox 0
     have hf0 := blk_frozen hbox 0
     have hs1 : w8.cell? ⟨G, 1, none⟩ = some (.slice none 0 0) := blk_cell hbox 1
     have hf1 := blk_frozen hbox 1
     have hs2 : w8.cell? ⟨G, 2, none⟩ = some (.slice none 0 0) := blk_cell hbox 2
     have hf2 := blk_frozen hbox 2
     have hs3 : w8.cell? ⟨G, 3, none⟩ = some (.slice none 0 0) := blk_cell hbox 3
     have hf3 := blk_frozen hbox 3
     have hs4 : w8.cell? ⟨G, 4, none⟩ = some (.slice none 0 0) := blk_cell hbox 4
     have hf4 := blk_frozen hbox 4
     refine skip_ (w1 := ?_) (by rfl) rfl ?_ ?_
     rotate_left
     ·go_simp
      rfl
     refine hK.out _ _ ?_
     clear hK K
     refine done_ (by kernel_rfl) ?_
     go_wp2
     go_meet
     case rel => exact ⟨G, X, y, by simp, by have := HL5.size; have := HG.out; have := HW0.out; omega, w5_blk hbox, by have := ho8.w5 hbox (Nat.le_refl _) (.int .i64 ro) (.slice none 0 0) (.slice none 0 0) (.slice none 0 0) (.slice X nb y); simp only [List.nil_append, hbl] at this; exact this, HB.then_wi (w5_wi _ G _ _ _ _ _) (by have := HL5.size; have := HG.out; omega)⟩
   ·refine box_step ?hg (N := 4) ?hd (cs := #[.int .i64 0, .slice none 0 0, .slice none 0 0, .slice none 0 0, .slice none 0 0]) (t := 39) ?hr ?_; (case hd => rfl); (case hg => rfl); (case hr => first | (go_simp; done) | (go_simp; rfl))
    intro G hG w5 hbox hb5
    have HG := hid hG
    clear hG
    have HW5 := (Bw.drawn (a := W0) ⟨⟨1, rfl⟩⟩).trans ⟨hb5⟩
    refine hK.out _ _ ⟨pw_cell_below HW5.out x0, pw_cell_below HW5.out x5⟩ (fun hHeld => ?_)
    clear hK K; refine norm_ (a' := ?_) ?_ ?_; rotate_left; (show Act.put _ (some 4) _ = _; simp only [Act.put, s1_, s2_, s3_, i64_w, i32_w]; rfl)
    refine one_ (i := 5) (N := (some 15)) #[true, true, true, true, true, true, true, true, true, true, false, false, true, false] rfl rfl (by kernel_rfl) (by decide) (fun K hK => ?_)
    refine lit0_step (N := 15) (e := 3) ?hg ?hd ?hr ?_; (case hd => rfl); (case hg => rfl); (case hr => first | (go_simp; done) | (go_simp; rfl))
    intro XL yL wL oL bL
    have HL5 := HW5.trans bL
    have hk7 := (bL.out.block _ (blk_lt hbox)).trans hbox
    clear hbox
    have hbox := hk7
    refine hK.out _ _ ⟨pw_cell_below HL5.out x0, pw_cell_below HL5.out x5⟩ (fun hHeld => ?_)
    clear hK K; refine norm_ (a' := ?_) ?_ ?_; rotate_left; (show Act.put _ (some 15) _ = _; simp only [Act.put, s1_, s2_, s3_, i64_w, i32_w]; rfl)
    refine one_ (i := 10) (N := (some 20)) #[true, true, true, true, true, true, true, true, true, true, true, false, true, false] rfl rfl (by kernel_rfl) (by decide) (fun K hK => ?_)
    refine appendInts_step (w0 := w) w.heap.size (by rfl) (.tmp 15) (.tmp 19) rfl (.slice XL 0 yL) [] bd Ab nb cb rfl rfl (OI.less0 oL (by have := HW5.size; have := HW0.out; omega)) (hb.to HL5) (bR.trans HL5).out (bR.trans HL5).size (by simp; omega) ?_
    intro v1 w8 ho8 hB8 hg8 ha8
    obtain ⟨X, y, rfl, _, _⟩ := FO.reads (t := 3) (k := 1) ⟨ho8.out⟩
    have hk8 := blk_grown hbox hg8 (own_ne oL.out hbox (by decide))
    clear hbox
    have hbox := hk8
    have HB := Bw.grown HL5 hg8 oL HW5.size
    refine hK.out _ _ ⟨pw_cell_below HB.out x0, pw_cell_below HB.out x5⟩ (fun hHeld => ?_)
    clear hK K; refine norm_ (a' := ?_) ?_ ?_; rotate_left; (show Act.put _ (some 20) _ = _; simp only [Act.put, s1_, s2_, s3_, i64_w, i32_w]; rfl)
    refine pq_ (i := 11) (N := (some 21)) (v := ?_) (a' := ?_) rfl rfl (by kernel_rfl) (fun _ _ _ h => h) (Or.inl ⟨by rfl, ?_⟩) ?_ ?_
    rotate_left; (intro w'; go_simp; with_reducible rfl); rotate_left; (simp only [Act.put, s1_, s2_, s3_, i64_w, i32_w]; rfl)
    refine last_ (i := 13) (N := none) #[true, true, true, true, true, true, true, true, true, true, true, true, true, true] rfl rfl (by kernel_rfl) (by decide) (fun K hK => ?_)
    have hs0 : w8.cell? ⟨G, 0, none⟩ = some (.int .i64 0) := blk_cell hbox 0
    have hf0 := blk_frozen hbox 0
    have hs1 : w8.cell? ⟨G, 1, none⟩ = some (.slice none 0 0) := blk_cell hbox 1
    have hf1 := blk_frozen hbox 1
    have hs2 : w8.cell? ⟨G, 2, none⟩ = some (.slice none 0 0) := blk_cell hbox 2
    have hf2 := blk_frozen hbox 2
    have hs3 : w8.cell? ⟨G, 3, none⟩ = some (.slice none 0 0) := blk_cell hbox 3
    have hf3 := blk_frozen hbox 3
    have hs4 : w8.cell? ⟨G, 4, none⟩ = some (.slice none 0 0) := blk_cell hbox 4
    have hf4 := blk_frozen hbox 4
    refine skip_ (w1 := ?_) (by rfl) rfl ?_ ?_
    rotate_left
    ·go_simp
     rfl
    refine hK.out _ _ ?_
    clear hK K
    refine done_ (by kernel_rfl) ?_
    go_wp2
    go_meet
    case rel => exact ⟨G, X, y, by simp, by have := HG.out; have := HW0.out; simp at *; omega, w5_blk hbox, by have := ho8.w5 hbox (Nat.le_refl _) (.int .i64 ro) (.slice none 0 0) (.slice none 0 0) (.slice none 0 0) (.slice X nb y); simp only [List.nil_append, hbl] at this; exact this, HB.then_wi (w5_wi _ G _ _ _ _ _) (by have := HG.out; simp at *; omega)⟩
  case rest =>
   obtain ⟨G, X, y, rfl, hG, hk, ho, HB⟩ := hcut
   have hX := Bx.start hG hk ((HB.out.block _ (blk_lt k0)).trans k0) (by rw [hbl]; exact ho) (bR.trans HB)
   have HE0 : Hid (joinOk L = (agree L ro bd (n - 0) 0 && staOk ro (lvTo L n) (msTo L n) (tsTo L n) bd)) := hid (by rw [joinOk, hl, hro, hbd, decide_eq_true hp2, Bool.true_and]; rfl)
   have HR := hid hro
   have HBD := hid hbd
   have HL := hid hl
   have HLB := hid hbl
   have HN := hid hn
   clear hro hbd hl hk ho HB hb k0 bR x0 x5 hsz hG ha hn hbl
   go_wp2
   go_loopw [5] (fun v5 wr => ∃ (j : Nat) (vl vm vt : Value), j ≤ n ∧ v5 = .int .i64 j ∧ Hid (joinOk L = (agree L ro bd (n - j) j && staOk ro (lvTo L n) (msTo L n) (tsTo L n) bd)) ∧ Hid (Bx w wr G ro vl (lvTo L j) vm (msTo L j) vt (tsTo L j) (.slice X nb y) bd)) (fun v5 _ => n - (intOf v5).toNat)
   case atStart => exact ⟨0, _, _, _, by omega, rfl, HE0, hid hX⟩
   case round =>
    obtain ⟨j, vl, vm, vt, hj, rfl, hE, HX⟩ := hrel
    clear hX HE0
    have hX := HX.out
    clear HX
    by_cases hlt : j < n
    ·have t1 : decide ((j : Int) < (n : Int)) = true := decide_eq_true (by omega)
     obtain ⟨ad2, e, Al, nl, cl, Am, nm, cm, At, nt, ct, A5, n5, c5, Ag, ng, cg, xw0, xw1, xw2, xw3, xw4, xw5, xw6, _, hv⟩ := r.nat j hlt
     obtain rfl := Option.some.inj e
     clear e xw1 xw6
     have x0 := pw_cell_below hX.B.out xw0
     have x5 := pw_cell_below hX.B.out xw5
     have hnext : Hid (joinOk L = (((decide ((gv L j).ro = ro) && decide ((gv L j).bd = bd)) && agree L ro bd (n - (j + 1)) (j + 1)) && staOk ro (lvTo L n) (msTo L n) (tsTo L n) bd)) := hid (by rw [hE.out, show n - j = (n - (j + 1)) + 1 by omega, agree])
     have q1 := lvTo_snoc (L := L) (j := j) (by rw [HL.out]; exact hlt)
     have q2 := msTo_snoc (L := L) (j := j) (by rw [HL.out]; exact hlt)
     have q3 := tsTo_snoc (L := L) (j := j) (by rw [HL.out]; exact hlt)
     have hsum := szTo_split L r.thirds (j + 1) (by rw [HL.out]; omega)
     have hmono := szTo_mono L n (j + 1) (by omega)
     have hNN := HN.out
     rw [q1, q2, q3] at hsum
     simp only [List.length_append] at hsum
     have l1 := ceL_len hv.l.len
     have l2 := hv.m.len
     have l3 := hv.t.len
     have hl1 : (lvTo L j).length + nl ≤ 1000000000 := by omega
     have hl2 : (msTo L j).length + nm ≤ 1000000000 := by omega
     have hl3 : (tsTo L j).length + nt ≤ 1000000000 := by omega
     have hIR : IdR w Al nl (ceL (gv L j)) := FR.id (by rw [ceL_f hv.l.len]; exact hv.l)
     have hMR := hv.m
     have hTR := hv.t
     have hBR := hv.b
     have Q1 := hid q1
     have Q2 := hid q2
     have Q3 := hid q3
     clear q1 q2 q3 hsum hmono hNN l1 l2 l3 hv hE
     generalize gv L j = x at *
     have r0 := blk_cell hX.res 0
     have r1 := blk_cell hX.res 1
     have r2 := blk_cell hX.res 2
     have r3 := blk_cell hX.res 3
     have r4 := blk_cell hX.res 4
     have rf0 := blk_frozen hX.res 0
     have rf1 := blk_frozen hX.res 1
     have rf2 := blk_frozen hX.res 2
     have rf3 := blk_frozen hX.res 3
     have rf4 := blk_frozen hX.res 4
     have s0 := blk_cell hX.blk 0
     have s1 := blk_cell hX.blk 1
     have s2 := blk_cell hX.blk 2
     have s3 := blk_cell hX.blk 3
     have s4 := blk_cell hX.blk 4
     have sf0 := blk_frozen hX.blk 0
     have sf1 := blk_frozen hX.blk 1
     have sf2 := blk_frozen hX.blk 2
     have sf3 := blk_frozen hX.blk 3
     have sf4 := blk_frozen hX.blk 4
     simp only [List.getElem?_toArray, List.getElem?_cons_zero, List.getElem?_cons_succ] at r0 r1 r2 r3 r4 s0 s1 s2 s3 s4
     by_cases e1 : x.ro = ro
     case neg =>
      have HJ : Hid (joinOk L = false) := hid (by rw [hnext.out, decide_eq_false e1]; rfl)
      have t2 : (x.ro != ro) = true := neT e1
      have HXX := hid hX
      clear hX hnext hIR hMR hTR hBR Q1 Q2 Q3 e1 xw0 xw2 xw3 xw4 xw5
      go_wp2
      go_quiet (fail)
      go_wp2
      refine bodyPost_ret (v := .tuple #[.agg #[.int .i64 0, .slice none 0 0, .slice none 0 0, .slice none 0 0, .slice none 0 0], .bool false]) ?_ rfl (Joined.no HJ.out ((HXX.out.B.then_wi (w5_wi _ _ _ _ _ _ _) (Nat.le_refl _)).trans (Bw.drawn ⟨⟨_, rfl⟩⟩)))
      exact results_ct (p := 2) (u := 3) rfl _ _ w.heap.size 39 #[.int .i64 0, .slice none 0 0, .slice none 0 0, .slice none 0 0, .slice none 0 0] (0, 0) _ rfl (blk_drewN (w5_blk HXX.out.res) _) Try.underlying39 rfl (by kernel_rfl)
     have t2 : (x.ro != ro) = false := neF e1
     by_cases e2 : x.bd = bd
     case neg =>
      have HJ : Hid (joinOk L = false) := hid (by rw [hnext.out, decide_eq_true e1, decide_eq_false e2]; rfl)
      have t3 : (!decide (x.bd = bd)) = true := by simp [e2]
      have hq := decide_eq_false e2
      have hRX : RI wr X nb bd := by have := (FO.fr (t := 3) (k := 1) ⟨hX.hb.out⟩).ri; rw [HLB.out] at this; exact this
      have hRV := hBR.to hX.B
      have HXX := hid hX
      clear hX hnext hIR hMR hTR hBR Q1 Q2 Q3 e1 e2 xw0 xw2 xw3 xw4 xw5 s1 s2 s3 sf0 sf1 sf2 sf3 sf4
      have R0 := hid r0
      have R1 := hid r1
      have R2 := hid r2
      have R3_ := hid r3
      have R4 := hid r4
      clear r0 r1 r2 r3 r4
      go_wp2
      go_quiet ((go_at_call 28; exact quietDB (spec_l24Same A5 n5 c5 x.bd X nb y bd _ (hRV.to (Bw.drawn ⟨⟨_, rfl⟩⟩)) (hRX.to (Bw.drawn ⟨⟨_, rfl⟩⟩))) hq))
      have r0 := R0.out
      have r1 := R1.out
      have r2 := R2.out
      have r3 := R3_.out
      have r4 := R4.out
      clear s0 s4 x0 x5 hRX hRV
      go_wp2
      refine bodyPost_ret (v := .tuple #[.agg #[.int .i64 0, .slice none 0 0, .slice none 0 0, .slice none 0 0, .slice none 0 0], .bool false]) ?_ rfl (Joined.no HJ.out ((HXX.out.B.then_wi (w5_wi _ _ _ _ _ _ _) (Nat.le_refl _)).trans (Bw.drawn ⟨⟨_, rfl⟩⟩)))
      exact results_ct (p := 2) (u := 3) rfl _ _ w.heap.size 39 #[.int .i64 0, .slice none 0 0, .slice none 0 0, .slice none 0 0, .slice none 0 0] (0, 0) _ rfl (blk_drewN (w5_blk HXX.out.res) _) Try.underlying39 rfl (by kernel_rfl)
     have hE' : Hid (joinOk L = (agree L ro bd (n - (j + 1)) (j + 1) && staOk ro (lvTo L n) (msTo L n) (tsTo L n) bd)) := hid (by rw [hnext.out, e1, e2, decide_eq_true rfl, decide_eq_true rfl]; rfl)
     have hq := decide_eq_true e2
     have hRX : RI wr X nb bd := by have := (FO.fr (t := 3) (k := 1) ⟨hX.hb.out⟩).ri; rw [HLB.out] at this; exact this
     have hRV := hBR.to hX.B
     have HXX := hid hX
     have HI := hid hIR
     have HM := hid hMR
     have HT := hid hTR
     have X2 := hid xw2
     have X3 := hid xw3
     have X4 := hid xw4
     clear hnext e1 e2 hX hIR hMR hTR hBR xw0 xw2 xw3 xw4 xw5 r0 r1 r2 r3 r4 rf0 rf1 rf2 rf3 rf4 s1 s2 s3 sf0 sf1 sf2 sf3 sf4
     go_wp2
     go_quiet ((go_at_call 28; exact quietDB (spec_l24Same A5 n5 c5 x.bd X nb y bd _ (hRV.to (Bw.drawn ⟨⟨_, rfl⟩⟩)) (hRX.to (Bw.drawn ⟨⟨_, rfl⟩⟩))) hq))
     have hX := HXX.out.to (Bw.drawn (a := wr) ⟨⟨nq, rfl⟩⟩)
     have hIR := HI.out
     have hMR := HM.out
     have hTR := HT.out
     have xw2 := X2.out
     have xw3 := X3.out
     have xw4 := X4.out
     clear HXX HI HM HT X2 X3 X4 hRX hRV hq s0 s4 x0 x5 t2
     generalize wr.drewN nq = w9 at *
     have s0 := blk_cell hX.blk 0
     have s1 := blk_cell hX.blk 1
     have s2 := blk_cell hX.blk 2
     have s3 := blk_cell hX.blk 3
     have s4 := blk_cell hX.blk 4
     have sf0 := blk_frozen hX.blk 0
     have sf1 := blk_frozen hX.blk 1
     have sf2 := blk_frozen hX.blk 2
     have sf3 := blk_frozen hX.blk 3
     have sf4 := blk_frozen hX.blk 4
     simp only [List.getElem?_toArray, List.getElem?_cons_zero, List.getElem?_cons_succ] at s0 s1 s2 s3 s4
     go_upto_region 9 with fail
     refine start_ (n := 12) (S := fun w' => w'.cell? ⟨(ad.add (j * 7)).block, (ad.add (j * 7)).off + 2, none⟩ = some (.slice Al nl cl) ∧ w'.cell? ⟨G, 1, none⟩ = some vl) (ds := [11]) #[false, false, false, false, false, false, false, false, false, false, false, false] (by kernel_rfl) rfl rfl ⟨pw_cell_below (hX.B.trans (Bw.drawn ⟨⟨1, rfl⟩⟩)).out xw2, s1⟩ (fun hHeld => ?_)
     refine pq_ (i := 0) (N := (some 49)) (v := ?_) (a' := ?_) rfl rfl (by kernel_rfl) (fun _ _ _ h => h) (Or.inl ⟨by rfl, ?_⟩) ?_ ?_
     rotate_left; (intro w'; go_simp; with_reducible rfl); rotate_left; (simp only [Act.put, s1_, s2_, s3_, i64_w, i32_w]; rfl)
     refine pq_ (i := 1) (N := (some 50)) (v := ?_) (a' := ?_) rfl rfl (by kernel_rfl) (fun _ _ _ h => h) (Or.inl ⟨by rfl, ?_⟩) ?_ ?_
     rotate_left; (intro w'; go_simp; with_reducible rfl); rotate_left; (simp only [Act.put, s1_, s2_, s3_, i64_w, i32_w]; rfl)
     refine tq_ (i := 2) (N := (some 51)) (v := ?_) (a' := ?_) rfl rfl (by kernel_rfl) (fun _ _ _ h => h) (Or.inl ⟨by rfl, ?_⟩) hHeld ?_ ?_
     rotate_left; (rintro w' ⟨s0, s1⟩; go_simp; with_reducible rfl); rotate_left; (simp only [Act.put, s1_, s2_, s3_, i64_w, i32_w]; rfl)
     refine pq_ (i := 3) (N := (some 52)) (v := ?_) (a' := ?_) rfl rfl (by kernel_rfl) (fun _ _ _ h => h) (Or.inl ⟨by rfl, ?_⟩) ?_ ?_
     rotate_left; (intro w'; go_simp; with_reducible rfl); rotate_left; (simp only [Act.put, s1_, s2_, s3_, i64_w, i32_w]; rfl)
     refine pq_ (i := 4) (N := (some 53)) (v := ?_) (a' := ?_) rfl rfl (by kernel_rfl) (fun _ _ _ h => h) (Or.inl ⟨by rfl, ?_⟩) ?_ ?_
     rotate_left; (intro w'; go_simp; with_reducible rfl); rotate_left; (simp only [Act.put, s1_, s2_, s3_, i64_w, i32_w]; rfl)
     refine pq_ (i := 5) (N := (some 54)) (v := ?_) (a' := ?_) rfl rfl (by kernel_rfl) (fun _ _ _ h => h) (Or.inl ⟨by rfl, ?_⟩) ?_ ?_
     rotate_left; (intro w'; go_simp; with_reducible rfl); rotate_left; (simp only [Act.put, s1_, s2_, s3_, i64_w, i32_w]; rfl)
     refine pq_ (i := 6) (N := (some 55)) (v := ?_) (a' := ?_) rfl rfl (by kernel_rfl) (fun _ _ _ h => h) (Or.inl ⟨by rfl, ?_⟩) ?_ ?_
     rotate_left; (intro w'; go_simp; with_reducible rfl); rotate_left; (simp only [Act.put, s1_, s2_, s3_, i64_w, i32_w]; rfl)
     refine tq_ (i := 7) (N := (some 56)) (v := ?_) (a' := ?_) rfl rfl (by kernel_rfl) (fun _ _ _ h => h) (Or.inl ⟨by rfl, ?_⟩) hHeld ?_ ?_
     rotate_left; (rintro w' ⟨s0, s1⟩; go_simp; with_reducible rfl); rotate_left; (simp only [Act.put, s1_, s2_, s3_, i64_w, i32_w]; rfl)
     refine one_ (i := 8) (N := (some 57)) #[true, true, true, true, true, true, true, true, true, false, false, false] rfl rfl (by kernel_rfl) (by decide) (fun K hK => ?_)
     have hX' := hX.to (Bw.drawn ⟨⟨1, rfl⟩⟩)
     refine appendIds_step (w0 := w) w.heap.size (by rfl) (.tmp 51) (.tmp 56) rfl vl (lvTo L j) (ceL x) Al nl cl rfl rfl hX'.hl (hIR.to hX'.B) hX'.B.out hX'.B.size hl1 ?_
     intro v1 w8 ho8 hB8 hg8 ha8
     obtain ⟨X1, y1, rfl, _, _⟩ := (FO.reads ho8)
     have hk8 := blk_grown hX'.blk hg8 (own_ne hX'.hl.out hX'.blk (by decide))
     have hs8 := blk_cell hk8 1
     have hf8 := blk_frozen hk8 1
     simp only [List.getElem?_toArray, List.getElem?_cons_zero, List.getElem?_cons_succ] at hs8
     refine hK.out _ _ ⟨pw_cell_below hB8 xw2, hs8⟩ (fun hHeld => ?_)
     clear hK K; refine norm_ (a' := ?_) ?_ ?_; rotate_left; (show Act.put _ (some 57) _ = _; simp only [Act.put, s1_, s2_, s3_, i64_w, i32_w]; rfl)
     refine pq_ (i := 9) (N := (some 58)) (v := ?_) (a' := ?_) rfl rfl (by kernel_rfl) (fun _ _ _ h => h) (Or.inl ⟨by rfl, ?_⟩) ?_ ?_
     rotate_left; (intro w'; go_simp; with_reducible rfl); rotate_left; (simp only [Act.put, s1_, s2_, s3_, i64_w, i32_w]; rfl)
     refine pq_ (i := 10) (N := (some 59)) (v := ?_) (a' := ?_) rfl rfl (by kernel_rfl) (fun _ _ _ h => h) (Or.inl ⟨by rfl, ?_⟩) ?_ ?_
     rotate_left; (intro w'; go_simp; with_reducible rfl); rotate_left; (simp only [Act.put, s1_, s2_, s3_, i64_w, i32_w]; rfl)
     refine last_ (i := 11) (N := none) #[true, true, true, true, true, true, true, true, true, true, true, true] rfl rfl (by kernel_rfl) (by decide) (fun K hK => ?_)
     refine skip_ (w1 := ?_) (by rfl) rfl ?_ ?_
     rotate_left
     ·go_simp
      rfl
     refine hK.out _ _ ?_
     clear hK K
     refine done_ (by kernel_rfl) ?_
     replace hX := hX'.setL ho8 hB8 hg8 ha8
     clear hX' hk8 hs8 hf8 hHeld ho8 hB8 hg8 ha8 s0 sf0 s1 sf1 s2 sf2 s3 sf3 s4 sf4
     simp only [List.length_append] at hX
     generalize (w8.setCell ⟨G, 1, none⟩ (.slice X1 ((lvTo L j).length + (ceL x).length) y1)) = w9 at *
     have s0 := blk_cell hX.blk 0
     have s1 := blk_cell hX.blk 1
     have s2 := blk_cell hX.blk 2
     have s3 := blk_cell hX.blk 3
     have s4 := blk_cell hX.blk 4
     have sf0 := blk_frozen hX.blk 0
     have sf1 := blk_frozen hX.blk 1
     have sf2 := blk_frozen hX.blk 2
     have sf3 := blk_frozen hX.blk 3
     have sf4 := blk_frozen hX.blk 4
     simp only [List.getElem?_toArray, List.getElem?_cons_zero, List.getElem?_cons_succ] at s0 s1 s2 s3 s4
     go_upto_region 10 with fail
     refine start_ (n := 10) (S := fun w' => w'.cell? ⟨(ad.add (j * 7)).block, (ad.add (j * 7)).off + 3, none⟩ = some (.slice Am nm cm) ∧ w'.cell? ⟨G, 2, none⟩ = some vm) (ds := [9]) #[false, false, false, false, false, false, false, false, false, false] (by kernel_rfl) rfl rfl ⟨pw_cell_below (hX.B.trans (Bw.drawn ⟨⟨1, rfl⟩⟩)).out xw3, s2⟩ (fun hHeld => ?_)
     refine pq_ (i := 0) (N := (some 60)) (v := ?_) (a' := ?_) rfl rfl (by kernel_rfl) (fun _ _ _ h => h) (Or.inl ⟨by rfl, ?_⟩) ?_ ?_
     rotate_left; (intro w'; go_simp; with_reducible rfl); rotate_left; (simp only [Act.put, s1_, s2_, s3_, i64_w, i32_w]; rfl)
     refine tq_ (i := 1) (N := (some 61)) (v := ?_) (a' := ?_) rfl rfl (by kernel_rfl) (fun _ _ _ h => h) (Or.inl ⟨by rfl, ?_⟩) hHeld ?_ ?_
     rotate_left; (rintro w' ⟨s0, s1⟩; go_simp; with_reducible rfl); rotate_left; (simp only [Act.put, s1_, s2_, s3_, i64_w, i32_w]; rfl)
     refine pq_ (i := 2) (N := (some 62)) (v := ?_) (a' := ?_) rfl rfl (by kernel_rfl) (fun _ _ _ h => h) (Or.inl ⟨by rfl, ?_⟩) ?_ ?_
     rotate_left; (intro w'; go_simp; with_reducible rfl); rotate_left; (simp only [Act.put, s1_, s2_, s3_, i64_w, i32_w]; rfl)
     refine pq_ (i := 3) (N := (some 63)) (v := ?_) (a' := ?_) rfl rfl (by kernel_rfl) (fun _ _ _ h => h) (Or.inl ⟨by rfl, ?_⟩) ?_ ?_
     rotate_left; (intro w'; go_simp; with_reducible rfl); rotate_left; (simp only [Act.put, s1_, s2_, s3_, i64_w, i32_w]; rfl)
     refine pq_ (i := 4) (N := (some 64)) (v := ?_) (a' := ?_) rfl rfl (by kernel_rfl) (fun _ _ _ h => h) (Or.inl ⟨by rfl, ?_⟩) ?_ ?_
     rotate_left; (intro w'; go_simp; with_reducible rfl); rotate_left; (simp only [Act.put, s1_, s2_, s3_, i64_w, i32_w]; rfl)
     refine pq_ (i := 5) (N := (some 65)) (v := ?_) (a' := ?_) rfl rfl (by kernel_rfl) (fun _ _ _ h => h) (Or.inl ⟨by rfl, ?_⟩) ?_ ?_
     rotate_left; (intro w'; go_simp; with_reducible rfl); rotate_left; (simp only [Act.put, s1_, s2_, s3_, i64_w, i32_w]; rfl)
     refine tq_ (i := 6) (N := (some 66)) (v := ?_) (a' := ?_) rfl rfl (by kernel_rfl) (fun _ _ _ h => h) (Or.inl ⟨by rfl, ?_⟩) hHeld ?_ ?_
     rotate_left; (rintro w' ⟨s0, s1⟩; go_simp; with_reducible rfl); rotate_left; (simp only [Act.put, s1_, s2_, s3_, i64_w, i32_w]; rfl)
     refine one_ (i := 7) (N := (some 67)) #[true, true, true, true, true, true, true, true, false, false] rfl rfl (by kernel_rfl) (by decide) (fun K hK => ?_)
     have hX' := hX.to (Bw.drawn ⟨⟨1, rfl⟩⟩)
     refine appendInts_step (w0 := w) w.heap.size (by rfl) (.tmp 61) (.tmp 66) rfl vm (msTo L j) x.ms Am nm cm rfl rfl hX'.hm (hMR.to hX'.B) hX'.B.out hX'.B.size hl2 ?_
     intro v1 w8 ho8 hB8 hg8 ha8
     obtain ⟨X2, y2, rfl, _, _⟩ := (FO.reads (t := 3) (k := 1) ⟨ho8.out⟩)
     have hk8 := blk_grown hX'.blk hg8 (own_ne hX'.hm.out hX'.blk (by decide))
     have hs8 := blk_cell hk8 2
     have hf8 := blk_frozen hk8 2
     simp only [List.getElem?_toArray, List.getElem?_cons_zero, List.getElem?_cons_succ] at hs8
     refine hK.out _ _ ⟨pw_cell_below hB8 xw3, hs8⟩ (fun hHeld => ?_)
     clear hK K; refine norm_ (a' := ?_) ?_ ?_; rotate_left; (show Act.put _ (some 67) _ = _; simp only [Act.put, s1_, s2_, s3_, i64_w, i32_w]; rfl)
     refine pq_ (i := 8) (N := (some 68)) (v := ?_) (a' := ?_) rfl rfl (by kernel_rfl) (fun _ _ _ h => h) (Or.inl ⟨by rfl, ?_⟩) ?_ ?_
     rotate_left; (intro w'; go_simp; with_reducible rfl); rotate_left; (simp only [Act.put, s1_, s2_, s3_, i64_w, i32_w]; rfl)
     refine last_ (i := 9) (N := none) #[true, true, true, true, true, true, true, true, true, true] rfl rfl (by kernel_rfl) (by decide) (fun K hK => ?_)
     refine skip_ (w1 := ?_) (by rfl) rfl ?_ ?_
     rotate_left
     ·go_simp
      rfl
     refine hK.out _ _ ?_
     clear hK K
     refine done_ (by kernel_rfl) ?_
     replace hX := hX'.setM ho8 hB8 hg8 ha8
     clear hX' hk8 hs8 hf8 hHeld ho8 hB8 hg8 ha8 s0 sf0 s1 sf1 s2 sf2 s3 sf3 s4 sf4
     simp only [List.length_append] at hX
     generalize (w8.setCell ⟨G, 2, none⟩ (.slice X2 ((msTo L j).length + x.ms.length) y2)) = w9 at *
     have s0 := blk_cell hX.blk 0
     have s1 := blk_cell hX.blk 1
     have s2 := blk_cell hX.blk 2
     have s3 := blk_cell hX.blk 3
     have s4 := blk_cell hX.blk 4
     have sf0 := blk_frozen hX.blk 0
     have sf1 := blk_frozen hX.blk 1
     have sf2 := blk_frozen hX.blk 2
     have sf3 := blk_frozen hX.blk 3
     have sf4 := blk_frozen hX.blk 4
     simp only [List.getElem?_toArray, List.getElem?_cons_zero, List.getElem?_cons_succ] at s0 s1 s2 s3 s4
     go_upto_region 11 with fail
     refine start_ (n := 10) (S := fun w' => w'.cell? ⟨(ad.add (j * 7)).block, (ad.add (j * 7)).off + 4, none⟩ = some (.slice At nt ct) ∧ w'.cell? ⟨G, 3, none⟩ = some vt) (ds := [9]) #[false, false, false, false, false, false, false, false, false, false] (by kernel_rfl) rfl rfl ⟨pw_cell_below (hX.B.trans (Bw.drawn ⟨⟨1, rfl⟩⟩)).out xw4, s3⟩ (fun hHeld => ?_)
     refine pq_ (i := 0) (N := (some 69)) (v := ?_) (a' := ?_) rfl rfl (by kernel_rfl) (fun _ _ _ h => h) (Or.inl ⟨by rfl, ?_⟩) ?_ ?_
     rotate_left; (intro w'; go_simp; with_reducible rfl); rotate_left; (simp only [Act.put, s1_, s2_, s3_, i64_w, i32_w]; rfl)
     refine tq_ (i := 1) (N := (some 70)) (v := ?_) (a' := ?_) rfl rfl (by kernel_rfl) (fun _ _ _ h => h) (Or.inl ⟨by rfl, ?_⟩) hHeld ?_ ?_
     rotate_left; (rintro w' ⟨s0, s1⟩; go_simp; with_reducible rfl); rotate_left; (simp only [Act.put, s1_, s2_, s3_, i64_w, i32_w]; rfl)
     refine pq_ (i := 2) (N := (some 71)) (v := ?_) (a' := ?_) rfl rfl (by kernel_rfl) (fun _ _ _ h => h) (Or.inl ⟨by rfl, ?_⟩) ?_ ?_
     rotate_left; (intro w'; go_simp; with_reducible rfl); rotate_left; (simp only [Act.put, s1_, s2_, s3_, i64_w, i32_w]; rfl)
     refine pq_ (i := 3) (N := (some 72)) (v := ?_) (a' := ?_) rfl rfl (by kernel_rfl) (fun _ _ _ h => h) (Or.inl ⟨by rfl, ?_⟩) ?_ ?_
     rotate_left; (intro w'; go_simp; with_reducible rfl); rotate_left; (simp only [Act.put, s1_, s2_, s3_, i64_w, i32_w]; rfl)
     refine pq_ (i := 4) (N := (some 73)) (v := ?_) (a' := ?_) rfl rfl (by kernel_rfl) (fun _ _ _ h => h) (Or.inl ⟨by rfl, ?_⟩) ?_ ?_
     rotate_left; (intro w'; go_simp; with_reducible rfl); rotate_left; (simp only [Act.put, s1_, s2_, s3_, i64_w, i32_w]; rfl)
     refine pq_ (i := 5) (N := (some 74)) (v := ?_) (a' := ?_) rfl rfl (by kernel_rfl) (fun _ _ _ h => h) (Or.inl ⟨by rfl, ?_⟩) ?_ ?_
     rotate_left; (intro w'; go_simp; with_reducible rfl); rotate_left; (simp only [Act.put, s1_, s2_, s3_, i64_w, i32_w]; rfl)
     refine tq_ (i := 6) (N := (some 75)) (v := ?_) (a' := ?_) rfl rfl (by kernel_rfl) (fun _ _ _ h => h) (Or.inl ⟨by rfl, ?_⟩) hHeld ?_ ?_
     rotate_left; (rintro w' ⟨s0, s1⟩; go_simp; with_reducible rfl); rotate_left; (simp only [Act.put, s1_, s2_, s3_, i64_w, i32_w]; rfl)
     refine one_ (i := 7) (N := (some 76)) #[true, true, true, true, true, true, true, true, false, false] rfl rfl (by kernel_rfl) (by decide) (fun K hK => ?_)
     have hX' := hX.to (Bw.drawn ⟨⟨1, rfl⟩⟩)
     refine appendInts_step (w0 := w) w.heap.size (by rfl) (.tmp 70) (.tmp 75) rfl vt (tsTo L j) x.ts At nt ct rfl rfl hX'.ht (hTR.to hX'.B) hX'.B.out hX'.B.size hl3 ?_
     intro v1 w8 ho8 hB8 hg8 ha8
     obtain ⟨X3, y3, rfl, _, _⟩ := (FO.reads (t := 3) (k := 1) ⟨ho8.out⟩)
     have hk8 := blk_grown hX'.blk hg8 (own_ne hX'.ht.out hX'.blk (by decide))
     have hs8 := blk_cell hk8 3
     have hf8 := blk_frozen hk8 3
     simp only [List.getElem?_toArray, List.getElem?_cons_zero, List.getElem?_cons_succ] at hs8
     refine hK.out _ _ ⟨pw_cell_below hB8 xw4, hs8⟩ (fun hHeld => ?_)
     clear hK K; refine norm_ (a' := ?_) ?_ ?_; rotate_left; (show Act.put _ (some 76) _ = _; simp only [Act.put, s1_, s2_, s3_, i64_w, i32_w]; rfl)
     refine pq_ (i := 8) (N := (some 77)) (v := ?_) (a' := ?_) rfl rfl (by kernel_rfl) (fun _ _ _ h => h) (Or.inl ⟨by rfl, ?_⟩) ?_ ?_
     rotate_left; (intro w'; go_simp; with_reducible rfl); rotate_left; (simp only [Act.put, s1_, s2_, s3_, i64_w, i32_w]; rfl)
     refine last_ (i := 9) (N := none) #[true, true, true, true, true, true, true, true, true, true] rfl rfl (by kernel_rfl) (by decide) (fun K hK => ?_)
     refine skip_ (w1 := ?_) (by rfl) rfl ?_ ?_
     rotate_left
     ·go_simp
      rfl
     refine hK.out _ _ ?_
     clear hK K
     refine done_ (by kernel_rfl) ?_
     replace hX := hX'.setT ho8 hB8 hg8 ha8
     clear hX' hk8 hs8 hf8 hHeld ho8 hB8 hg8 ha8 s0 sf0 s1 sf1 s2 sf2 s3 sf3 s4 sf4
     simp only [List.length_append] at hX
     generalize (w8.setCell ⟨G, 3, none⟩ (.slice X3 ((tsTo L j).length + x.ts.length) y3)) = w9 at *
     have s0 := blk_cell hX.blk 0
     have s1 := blk_cell hX.blk 1
     have s2 := blk_cell hX.blk 2
     have s3 := blk_cell hX.blk 3
     have s4 := blk_cell hX.blk 4
     have sf0 := blk_frozen hX.blk 0
     have sf1 := blk_frozen hX.blk 1
     have sf2 := blk_frozen hX.blk 2
     have sf3 := blk_frozen hX.blk 3
     have sf4 := blk_frozen hX.blk 4
     simp only [List.getElem?_toArray, List.getElem?_cons_zero, List.getElem?_cons_succ] at s0 s1 s2 s3 s4
     go_wp2
     go_roundw
     case rel => exact ⟨j + 1, _, _, _, by omega, by go_num, hE', hid (by rw [Q1.out, Q2.out, Q3.out]; (try simp only [List.length_append] at hX ⊢); exact hX)⟩
     case measure => simp [intOf]; omega
    ·obtain rfl : j = n := by omega
     have t1 : decide ((j : Int) < (j : Int)) = false := decide_eq_false (by omega)
     obtain ⟨Xl, yl, e1, _, f1⟩ := hX.hl.reads
     obtain ⟨Xm, ym, e2, _, f2⟩ := FO.reads (t := 3) (k := 1) ⟨hX.hm.out⟩
     obtain ⟨Xt, yt, e3, _, f3⟩ := FO.reads (t := 3) (k := 1) ⟨hX.ht.out⟩
     subst e1 e2 e3
     have f4 := FO.fr (t := 3) (k := 1) ⟨hX.hb.out⟩
     have hS : Hid (joinOk L = staOk ro (lvTo L j) (msTo L j) (tsTo L j) bd) := hid (by rw [hE.out, Nat.sub_self]; rfl)
     clear hE
     have r0 := blk_cell hX.res 0
     have rf0 := blk_frozen hX.res 0
     have r1 := blk_cell hX.res 1
     have rf1 := blk_frozen hX.res 1
     have r2 := blk_cell hX.res 2
     have rf2 := blk_frozen hX.res 2
     have r3 := blk_cell hX.res 3
     have rf3 := blk_frozen hX.res 3
     have r4 := blk_cell hX.res 4
     have rf4 := blk_frozen hX.res 4
     have s0 := blk_cell hX.blk 0
     have sf0 := blk_frozen hX.blk 0
     have s1 := blk_cell hX.blk 1
     have sf1 := blk_frozen hX.blk 1
     have s2 := blk_cell hX.blk 2
     have sf2 := blk_frozen hX.blk 2
     have s3 := blk_cell hX.blk 3
     have sf3 := blk_frozen hX.blk 3
     have s4 := blk_cell hX.blk 4
     have sf4 := blk_frozen hX.blk 4
     simp only [List.getElem?_toArray, List.getElem?_cons_zero, List.getElem?_cons_succ] at r0 r1 r2 r3 r4 s0 s1 s2 s3 s4
     go_wp2_with fail
     refine (spec_StateOk ro Xl _ yl (lvTo L j) Xm _ ym (msTo L j) Xt _ yt (tsTo L j) X nb y bd _ f1.id f2.ri f3.ri (by rw [← HLB.out]; exact f4.ri)).mono ?_
     rintro e w7 ⟨rfl, b7⟩
     clear r0 r1 r2 r3 r4 rf0 rf1 rf2 rf3 rf4 s0 s1 s2 s3 s4 sf0 sf1 sf2 sf3 sf4
     clear f1 f2 f3 f4
     replace hX := hX.to b7
     clear b7
     have r0 := blk_cell hX.res 0
     have rf0 := blk_frozen hX.res 0
     have r1 := blk_cell hX.res 1
     have rf1 := blk_frozen hX.res 1
     have r2 := blk_cell hX.res 2
     have rf2 := blk_frozen hX.res 2
     have r3 := blk_cell hX.res 3
     have rf3 := blk_frozen hX.res 3
     have r4 := blk_cell hX.res 4
     have rf4 := blk_frozen hX.res 4
     have s0 := blk_cell hX.blk 0
     have sf0 := blk_frozen hX.blk 0
     have s1 := blk_cell hX.blk 1
     have sf1 := blk_frozen hX.blk 1
     have s2 := blk_cell hX.blk 2
     have sf2 := blk_frozen hX.blk 2
     have s3 := blk_cell hX.blk 3
     have sf3 := blk_frozen hX.blk 3
     have s4 := blk_cell hX.blk 4
     have sf4 := blk_frozen hX.blk 4
     simp only [List.getElem?_toArray, List.getElem?_cons_zero, List.getElem?_cons_succ] at r0 r1 r2 r3 r4 s0 s1 s2 s3 s4
     rw [← hS.out]
     cases hJ : joinOk L with
     | false =>
      have HJ := hid hJ
      have HXX := hid hX
      clear hJ hS hX
      go_wp2
      refine bodyPost_ret (v := .tuple #[.agg #[.int .i64 0, .slice none 0 0, .slice none 0 0, .slice none 0 0, .slice none 0 0], .bool false]) ?_ rfl (Joined.no HJ.out (HXX.out.B.then_wi (w5_wi _ _ _ _ _ _ _) (Nat.le_refl _)))
      exact results_ct (p := 2) (u := 3) rfl _ _ w.heap.size 39 #[.int .i64 0, .slice none 0 0, .slice none 0 0, .slice none 0 0, .slice none 0 0] (0, 0) _ rfl (w5_blk HXX.out.res) Try.underlying39 rfl (by kernel_rfl)
     | true =>
      have HJ := hid hJ
      have HXX := hid hX
      clear hJ hS hX
      go_wp2
      refine bodyPost_ret (v := .tuple #[.agg #[.int .i64 ro, .slice Xl (lvTo L j).length yl, .slice Xm (msTo L j).length ym, .slice Xt (tsTo L j).length yt, .slice X nb y], .bool true]) ?_ rfl (Joined.yes HL.out HJ.out HR.out HBD.out HXX.out)
      exact results_ct (p := 2) (u := 3) rfl _ _ w.heap.size 39 #[.int .i64 ro, .slice Xl (lvTo L j).length yl, .slice Xm (msTo L j).length ym, .slice Xt (tsTo L j).length yt, .slice X nb y] (0, 0) _ rfl (w5_blk HXX.out.res) Try.underlying39 rfl (by kernel_rfl)
end Go.Proofs.Ytgdkffddcbjmmaa.U
