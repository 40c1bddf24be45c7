
/- Joined views: what is answered. -/
import Derived.Test.YtaidbdogolhnjaaIa
import Derived.Test.YtaidbdogolhnjaaG4
import Derived.Test.YtaidbdogolhnjaaEq
import Derived.Test.YtaidbdogolhnjaaG21
import Derived.Test.YtaidbdogolhnjaaWMore
set_option linter.unusedVariables false
set_option linter.unusedSimpArgs false
namespace Go.Proofs.Ytaidbdogolhnjaa.U
open Go.RowKit Go.Lib Go.Proofs.YtaidbdogolhnjaaW.PrintWords

/-- a state, flat -/
structure Sta where
  ro : Int
  lv : List Ce
  ms : List Int
  ts : List Int
  bd : List Int
def sta0 : Sta := ⟨0, [], [], [], []⟩
/-- the cells of a flat row -/
def unC : List Int → List Ce
  | a :: b :: c :: r => ⟨a, b, c⟩ :: unC r
  | _ => []
theorem idF_unC : ∀ (n : Nat) (l : List Int), l.length = n * 3 → idF (unC l) = l
  | 0, l, h => by
    rw [List.eq_nil_of_length_eq_zero (by omega : l.length = 0)]; rfl
  | n + 1, [], h => by simp at h
  | n + 1, [_], h => by simp at h; omega
  | n + 1, [_, _], h => by simp at h; omega
  | n + 1, a :: b :: c :: r, h => by
    have := idF_unC n r (by simp at h; omega)
    rw [unC]
    simp only [idF, List.flatMap_cons] at this ⊢
    rw [this]; rfl
/-- the cells of a view -/
def ceL (x : Vf) : List Ce := unC x.lf
theorem ceL_f {x : Vf} {n : Nat} (h : x.lf.length = n * 3) : idF (ceL x) = x.lf := idF_unC n x.lf h
theorem ceL_len {x : Vf} {n : Nat} (h : x.lf.length = n * 3) : (ceL x).length = n := by
  have := idF_length (ceL x)
  rw [ceL_f h, h] at this
  omega
/-- the views from j on agree on roots and bed (d: views left) -/
def agree (L : List Vf) (ro : Int) (bd : List Int) : Nat → Nat → Bool
  | 0, _ => true
  | d + 1, j => (decide ((gv L j).ro = ro) && decide ((gv L j).bd = bd)) && agree L ro bd d (j + 1)
def lvTo (L : List Vf) (j : Nat) : List Ce := (L.take j).flatMap ceL
def msTo (L : List Vf) (j : Nat) : List Int := (L.take j).flatMap (·.ms)
def tsTo (L : List Vf) (j : Nat) : List Int := (L.take j).flatMap (·.ts)
theorem take_snoc' {α β : Type} (f : α → List β) (L : List α) (j : Nat) (x : α) (h : L[j]? = some x) : (L.take (j + 1)).flatMap f = (L.take j).flatMap f ++ f x := by
  rw [List.take_add_one, h]
  simp
theorem gv_get {L : List Vf} {j : Nat} (h : j < L.length) : L[j]? = some (gv L j) := by rw [List.getElem?_eq_getElem h, gv_at h]
theorem lvTo_snoc {L : List Vf} {j : Nat} (h : j < L.length) : lvTo L (j + 1) = lvTo L j ++ ceL (gv L j) := take_snoc' _ _ _ _ (gv_get h)
theorem msTo_snoc {L : List Vf} {j : Nat} (h : j < L.length) : msTo L (j + 1) = msTo L j ++ (gv L j).ms := take_snoc' _ _ _ _ (gv_get h)
theorem tsTo_snoc {L : List Vf} {j : Nat} (h : j < L.length) : tsTo L (j + 1) = tsTo L j ++ (gv L j).ts := take_snoc' _ _ _ _ (gv_get h)
/-- what JoinViews answers -/
def joinOk (L : List Vf) : Bool := decide (0 < L.length) && agree L (gv L 0).ro (gv L 0).bd L.length 0 && staOk (gv L 0).ro (lvTo L L.length) (msTo L L.length) (tsTo L L.length) (gv L 0).bd
def joinS (L : List Vf) : Sta := if joinOk L = true then ⟨(gv L 0).ro, lvTo L L.length, msTo L L.length, tsTo L L.length, (gv L 0).bd⟩ else sta0
/-- a state of the call's own, within blocks -/
def StO (w : World) (lo hi : Nat) (x : Value) (s : Sta) : Prop := ∃ (vl vm vt vb : Value), x = .agg #[.int .i64 s.ro, vl, vm, vt, vb] ∧ Rw w lo hi 58 3 vl s.lv.length (idF s.lv) ∧ Rw w lo hi 3 1 vm s.ms.length s.ms ∧ Rw w lo hi 3 1 vt s.ts.length s.ts ∧ Rw w lo hi 3 1 vb s.bd.length s.bd ∧ (Apart vl vm ∧ Apart vl vt ∧ Apart vl vb ∧ Apart vm vt ∧ Apart vm vb ∧ Apart vt vb)
theorem StO.zero (w : World) (lo hi : Nat) : StO w lo hi (.agg #[.int .i64 0, .slice none 0 0, .slice none 0 0, .slice none 0 0, .slice none 0 0]) sta0 := by
  have h : ∀ b, (Value.slice none 0 0).ownBlock = some b → b < hi := fun b e => by cases e
  exact ⟨_, _, _, _, rfl, ⟨FO.nil _ _ _ _, h⟩, ⟨FO.nil _ _ _ _, h⟩, ⟨FO.nil _ _ _ _, h⟩, ⟨FO.nil _ _ _ _, h⟩, .inl rfl, .inl rfl, .inl rfl, .inl rfl, .inl rfl, .inl rfl⟩
theorem StO.to {w w' : World} {lo hi : Nat} {x : Value} {s : Sta} (h : StO w lo hi x s) (b : Bw w w') : StO w' lo hi x s := by
  obtain ⟨vl, vm, vt, vb, rfl, h1, h2, h3, h4, ap⟩ := h
  exact ⟨vl, vm, vt, vb, rfl, h1.to b, h2.to b, h3.to b, h4.to b, ap⟩
theorem StO.wi {w w' : World} {lo hi lo' hi' : Nat} {x : Value} {s : Sta} (h : StO w lo hi x s) (k : Wi w w' lo' hi') (hd : hi ≤ lo' ∨ hi' ≤ lo) : StO w' lo hi x s := by
  obtain ⟨vl, vm, vt, vb, rfl, h1, h2, h3, h4, ap⟩ := h
  exact ⟨vl, vm, vt, vb, rfl, h1.wi k hd, h2.wi k hd, h3.wi k hd, h4.wi k hd, ap⟩
/-- what JoinViews hands back -/
def Joined (L : List Vf) (w : World) (e : Ending) (w' : World) : Prop := ∃ x, e = .returned (.tuple #[x, .bool (joinOk L)]) ∧ StO w' w.heap.size w'.heap.size x (joinS L) ∧ Bw w w'
theorem szTo_split (L : List Vf) (hl : ∀ x ∈ L, x.lf.length % 3 = 0) : ∀ j, j ≤ L.length → (lvTo L j).length + (msTo L j).length + (tsTo L j).length ≤ szTo L j
  | 0, _ => by simp [lvTo, msTo, tsTo, szTo]
  | j + 1, hj => by
    have ih := szTo_split L hl j (by omega)
    have hm : gv L j ∈ L := by rw [gv_at (by omega)]; exact List.getElem_mem _
    have h3 := hl _ hm
    rw [lvTo_snoc (by omega), msTo_snoc (by omega), tsTo_snoc (by omega), szTo, vsz]
    have := ceL_len (x := gv L j) (n := (gv L j).lf.length / 3) (by omega)
    simp only [List.length_append]
    omega
theorem szTo_mono (L : List Vf) : ∀ n j, j ≤ n → szTo L j ≤ szTo L n
  | 0, j, h => by rw [show j = 0 by omega]; exact Nat.le_refl _
  | n + 1, j, h => by
    rcases Nat.lt_or_ge j (n + 1) with h1 | h1
    · exact Nat.le_trans (szTo_mono L n j (by omega)) (by rw [szTo]; omega)
    · rw [show j = n + 1 by omega]; exact Nat.le_refl _
theorem VwR.thirds {w : World} {A : Option Addr} {n : Nat} {L : List Vf} (r : VwR w A n L) : ∀ x ∈ L, x.lf.length % 3 = 0 := fun x hx => by
  obtain ⟨j, hj, rfl⟩ := List.getElem_of_mem hx
  obtain ⟨ad, _, Al, nl, cl, Am, nm, cm, At, nt, ct, Ab, nb, cb, Ag, ng, cg, _, _, _, _, _, _, _, _, hv⟩ := r.nat j (by rw [← r.len]; exact hj)
  have := hv.l.len
  rw [gv_at hj] at this
  omega

/-- the state that is joined, in its block G; the result's block -/
structure Bx (w wr : World) (G : Nat) (ro : Int) (vl : Value) (l : List Ce) (vm : Value) (m : List Int) (vt : Value) (t : List Int) (vb : Value) (b : List Int) : Prop where
  g : w.heap.size < G
  blk : wr.heap[G]? = some (.cells #[.int .i64 ro, vl, vm, vt, vb] 29 (0, 0))
  res : wr.heap[w.heap.size]? = some (.cells #[.int .i64 0, .slice none 0 0, .slice none 0 0, .slice none 0 0, .slice none 0 0] 29 (0, 0))
  hl : IdO wr w.heap.size vl l.length l
  hm : OI wr w.heap.size vm m.length m
  ht : OI wr w.heap.size vt t.length t
  hb : OI wr w.heap.size vb b.length b
  lm : Apart vl vm
  lt : Apart vl vt
  lb : Apart vl vb
  mt : Apart vm vt
  mb : Apart vm vb
  tb : Apart vt vb
  B : Bw w wr
section
variable {w wr w3 w4 : World} {G : Nat} {ro : Int} {vl : Value} {l : List Ce} {vm : Value} {m : List Int} {vt : Value} {t : List Int} {vb : Value} {b : List Int} {v1 : Value}
theorem Bx.to (h : Bx w wr G ro vl l vm m vt t vb b) (k : Bw wr w3) : Bx w w3 G ro vl l vm m vt t vb b := ⟨h.g, (k.out.block _ (blk_lt h.blk)).trans h.blk, (k.out.block _ (blk_lt h.res)).trans h.res, h.hl.to k, h.hm.to k, h.ht.to k, h.hb.to k, h.lm, h.lt, h.lb, h.mt, h.mb, h.tb, h.B.trans k⟩
theorem apart_grow {W : World} {v u : Value} (h : Apart v u) (hu : ∀ b, u.ownBlock = some b → b < W.heap.size) (hg : v1.ownBlock = v.ownBlock ∨ ∃ b, v1.ownBlock = some b ∧ W.heap.size ≤ b) : Apart v1 u := by
  rcases hg with e | ⟨b, e, hb⟩
  · rcases h with h | h
    · exact .inl (e.trans h)
    · exact .inr (by rw [e]; exact h)
  · refine .inr fun e2 => ?_
    have := hu b (by rw [← e2, e])
    omega
theorem apart_grow' {W : World} {v u : Value} (h : Apart u v) (hu : ∀ b, u.ownBlock = some b → b < W.heap.size) (hg : v1.ownBlock = v.ownBlock ∨ ∃ b, v1.ownBlock = some b ∧ W.heap.size ≤ b) : Apart u v1 := by
  rcases hg with e | ⟨b, e, hb⟩
  · rcases h with h | h
    · exact .inl h
    · exact .inr (by rw [e]; exact h)
  · refine .inr fun e2 => ?_
    have := hu b (by rw [e2, e])
    omega
theorem FO.blk {base e k n : Nat} {v : Value} {F : List Int} (h : FO w base e k v n F) (hne : e ≠ 29) {cs : Array Value} (hG : w.heap[G]? = some (.cells cs 29 (0, 0))) (i : Nat) (u : Value) : FO (w.setCell ⟨G, i, none⟩ u) base e k v n F := ⟨own_move h.out fun q hq => Below.heap_setCell w ⟨G, i, none⟩ u q (fun e2 => by
  have := own_ne h.out hG hne
  simp at e2
  exact this (by rw [hq, e2]))⟩
theorem OI.blk {base n : Nat} {v : Value} {F : List Int} (h : OI w base v n F) {cs : Array Value} (hG : w.heap[G]? = some (.cells cs 29 (0, 0))) (i : Nat) (u : Value) : OI (w.setCell ⟨G, i, none⟩ u) base v n F := ⟨(FO.blk (k := 1) ⟨h.out⟩ (by decide) hG i u).out⟩
theorem own_hd {base e k n : Nat} {xs : List Value} {v : Value} (h : w.ownsRow base e k v n xs) : ∀ b, v.ownBlock = some b → b < w.heap.size := fun b hb => own_lt h b hb
theorem OI.grownA {W W' : World} {base n : Nat} {v u : Value} {F : List Int} (h : OI W base v n F) (hg : W.grownBy W' u.ownBlock) (ha : Apart v u) : OI W' base v n F := ⟨own_other h.out hg ha⟩
theorem Apart.flip {u v : Value} (h : Apart u v) : Apart v u := by
  rcases h with h | h
  · by_cases e : v.ownBlock = none
    · exact .inl e
    · exact .inr (by rw [h]; exact e)
  · exact .inr (fun e => h e.symm)
theorem Bx.setL (h : Bx w wr G ro vl l vm m vt t vb b) {l' : List Ce} (o : IdO w3 w.heap.size v1 l'.length l') (bw : Below w.heap.size w w3) (hg : wr.grownBy w3 vl.ownBlock) (ha : v1.ownBlock = vl.ownBlock ∨ ∃ b, v1.ownBlock = some b ∧ wr.heap.size ≤ b) : Bx w (w3.setCell ⟨G, 1, none⟩ v1) G ro v1 l' vm m vt t vb b := by
  have hk : w3.heap[G]? = _ := blk_grown h.blk hg (own_ne h.hl.out h.blk (by decide))
  have hr : w3.heap[w.heap.size]? = _ := blk_grown h.res hg (own_ne h.hl.out h.res (by decide))
  exact ⟨h.g, (blk_set hk 1 v1).trans rfl, blk_far hr (by show w.heap.size ≠ G; have := h.g; omega) v1, FO.blk o (by decide) hk 1 v1, (h.hm.grownA hg h.lm.flip).blk hk 1 v1, (h.ht.grownA hg h.lt.flip).blk hk 1 v1, (h.hb.grownA hg h.lb.flip).blk hk 1 v1,
    apart_grow h.lm (own_hd h.hm.out) ha, apart_grow h.lt (own_hd h.ht.out) ha, apart_grow h.lb (own_hd h.hb.out) ha, h.mt, h.mb, h.tb, bw_set ⟨bw⟩ (Nat.le_of_lt h.g) 1 v1⟩
theorem Bx.setM (h : Bx w wr G ro vl l vm m vt t vb b) {m' : List Int} (o : OI w3 w.heap.size v1 m'.length m') (bw : Below w.heap.size w w3) (hg : wr.grownBy w3 vm.ownBlock) (ha : v1.ownBlock = vm.ownBlock ∨ ∃ b, v1.ownBlock = some b ∧ wr.heap.size ≤ b) : Bx w (w3.setCell ⟨G, 2, none⟩ v1) G ro vl l v1 m' vt t vb b := by
  have hk : w3.heap[G]? = _ := blk_grown h.blk hg (own_ne h.hm.out h.blk (by decide))
  have hr : w3.heap[w.heap.size]? = _ := blk_grown h.res hg (own_ne h.hm.out h.res (by decide))
  exact ⟨h.g, (blk_set hk 2 v1).trans rfl, blk_far hr (by show w.heap.size ≠ G; have := h.g; omega) v1, FO.blk (h.hl.grown hg h.lm) (by decide) hk 2 v1, o.blk hk 2 v1, (h.ht.grownA hg h.mt.flip).blk hk 2 v1, (h.hb.grownA hg h.mb.flip).blk hk 2 v1,
    apart_grow' h.lm (own_hd h.hl.out) ha, h.lt, h.lb, apart_grow h.mt (own_hd h.ht.out) ha, apart_grow h.mb (own_hd h.hb.out) ha, h.tb, bw_set ⟨bw⟩ (Nat.le_of_lt h.g) 2 v1⟩
theorem Bx.setT (h : Bx w wr G ro vl l vm m vt t vb b) {t' : List Int} (o : OI w3 w.heap.size v1 t'.length t') (bw : Below w.heap.size w w3) (hg : wr.grownBy w3 vt.ownBlock) (ha : v1.ownBlock = vt.ownBlock ∨ ∃ b, v1.ownBlock = some b ∧ wr.heap.size ≤ b) : Bx w (w3.setCell ⟨G, 3, none⟩ v1) G ro vl l vm m v1 t' vb b := by
  have hk : w3.heap[G]? = _ := blk_grown h.blk hg (own_ne h.ht.out h.blk (by decide))
  have hr : w3.heap[w.heap.size]? = _ := blk_grown h.res hg (own_ne h.ht.out h.res (by decide))
  exact ⟨h.g, (blk_set hk 3 v1).trans rfl, blk_far hr (by show w.heap.size ≠ G; have := h.g; omega) v1, FO.blk (h.hl.grown hg h.lt) (by decide) hk 3 v1, (h.hm.grownA hg h.mt).blk hk 3 v1, o.blk hk 3 v1, (h.hb.grownA hg h.tb.flip).blk hk 3 v1,
    h.lm, apart_grow' h.lt (own_hd h.hl.out) ha, h.lb, apart_grow' h.mt (own_hd h.hm.out) ha, h.mb, apart_grow h.tb (own_hd h.hb.out) ha, bw_set ⟨bw⟩ (Nat.le_of_lt h.g) 3 v1⟩
/-- the five stores of a state into a block -/
def w5 (w : World) (g : Nat) (u0 u1 u2 u3 u4 : Value) : World := ((((w.setCell ⟨g, 0, none⟩ u0).setCell ⟨g, 1, none⟩ u1).setCell ⟨g, 2, none⟩ u2).setCell ⟨g, 3, none⟩ u3).setCell ⟨g, 4, none⟩ u4
theorem w5_blk {c0 c1 c2 c3 c4 u0 u1 u2 u3 u4 : Value} {e : TypeId} (h : w.heap[G]? = some (.cells #[c0, c1, c2, c3, c4] e (0, 0))) : (w5 w G u0 u1 u2 u3 u4).heap[G]? = some (.cells #[u0, u1, u2, u3, u4] e (0, 0)) := (blk_set (blk_set (blk_set (blk_set (blk_set h 0 u0) 1 u1) 2 u2) 3 u3) 4 u4).trans rfl
theorem w5_wi (w : World) (g : Nat) (u0 u1 u2 u3 u4 : Value) : Wi w (w5 w g u0 u1 u2 u3 u4) g (g + 1) := ((((Wi.set w g 0 u0).trans (Wi.set _ g 1 u1)).trans (Wi.set _ g 2 u2)).trans (Wi.set _ g 3 u3)).trans (Wi.set _ g 4 u4)
theorem OI.w5 {base n : Nat} {v : Value} {F : List Int} {cs : Array Value} (h : OI w base v n F) (hG : w.heap[G]? = some (.cells cs 29 (0, 0))) {base' : Nat} (hb : base' ≤ base) (u0 u1 u2 u3 u4 : Value) : OI (w5 w G u0 u1 u2 u3 u4) base' v n F := ⟨own_less (own_move h.out fun q hq => (w5_wi w G u0 u1 u2 u3 u4).block q (own_lt h.out q hq) (fun e2 => own_ne h.out hG (by decide) (by rw [hq, show q = G by omega]))) hb⟩
theorem Bx.start (hG : w.heap.size < G) (h1 : wr.heap[G]? = some (.cells #[.int .i64 ro, .slice none 0 0, .slice none 0 0, .slice none 0 0, vb] 29 (0, 0))) (h2 : wr.heap[w.heap.size]? = some (.cells #[.int .i64 0, .slice none 0 0, .slice none 0 0, .slice none 0 0, .slice none 0 0] 29 (0, 0))) (o : OI wr w.heap.size vb b.length b) (k : Bw w wr) : Bx w wr G ro (.slice none 0 0) [] (.slice none 0 0) [] (.slice none 0 0) [] vb b :=
  ⟨hG, h1, h2, FO.nil _ _ _ _, ⟨(FO.nil _ _ 3 1).out⟩, ⟨(FO.nil _ _ 3 1).out⟩, o, .inl rfl, .inl rfl, .inl rfl, .inl rfl, .inl rfl, .inl rfl, k⟩
/-- at the end: the state lies in the result's block -/
theorem Bx.done (h : Bx w wr G ro vl l vm m vt t vb b) : StO (w5 wr w.heap.size (.int .i64 ro) vl vm vt vb) w.heap.size (w5 wr w.heap.size (.int .i64 ro) vl vm vt vb).heap.size (.agg #[.int .i64 ro, vl, vm, vt, vb]) ⟨ro, l, m, t, b⟩ ∧ (w5 wr w.heap.size (.int .i64 ro) vl vm vt vb).heap[w.heap.size]? = some (.cells #[.int .i64 ro, vl, vm, vt, vb] 29 (0, 0)) ∧ Bw w (w5 wr w.heap.size (.int .i64 ro) vl vm vt vb) := by
  have k := w5_wi wr w.heap.size (.int .i64 ro) vl vm vt vb
  have hs : (w5 wr w.heap.size (.int .i64 ro) vl vm vt vb).heap.size = wr.heap.size := by simp [w5, World.setCell]
  have far : ∀ {e k' n : Nat} {v : Value} {F : List Int}, FO wr w.heap.size e k' v n F → e ≠ 29 → Rw (w5 wr w.heap.size (.int .i64 ro) vl vm vt vb) w.heap.size (w5 wr w.heap.size (.int .i64 ro) vl vm vt vb).heap.size e k' v n F := fun o hne => by
    refine ⟨⟨own_move o.out fun q hq => ?_⟩, fun b hb => ?_⟩
    · have h1 := own_ne o.out h.res hne
      exact k.block q (own_lt o.out q hq) (fun e2 => h1 (by rw [hq, show q = w.heap.size by omega]))
    · rw [hs]; exact own_lt o.out b hb
  exact ⟨⟨vl, vm, vt, vb, rfl, far h.hl (by decide), far ⟨h.hm.out⟩ (by decide), far ⟨h.ht.out⟩ (by decide), far ⟨h.hb.out⟩ (by decide), h.lm, h.lt, h.lb, h.mt, h.mb, h.tb⟩, w5_blk h.res, h.B.then_wi k (Nat.le_refl _)⟩
end
theorem box_blk {w w1 : World} {t : TypeId} {cs : Array Value} (b : Bw (w.alloc (.cells cs t)) w1) : w1.heap[w.heap.size]? = some (.cells cs t (0, 0)) := (b.out.block _ (by simp)).trans (heap_alloc_new w _)
theorem Joined.no {L : List Vf} {w w' : World} (hj : joinOk L = false) (b : Bw w w') : Joined L w (.returned (.tuple #[.agg #[.int .i64 0, .slice none 0 0, .slice none 0 0, .slice none 0 0, .slice none 0 0], .bool false])) w' :=
  ⟨_, by rw [hj], by rw [joinS, if_neg (by rw [hj]; decide)]; exact StO.zero _ _ _, b⟩
theorem Joined.yes {L : List Vf} {w wr : World} {n G : Nat} {ro : Int} {vl vm vt vb : Value} {b : List Int} (hn : L.length = n) (hj : joinOk L = true) (hr : (gv L 0).ro = ro) (hb : (gv L 0).bd = b) (h : Bx w wr G ro vl (lvTo L n) vm (msTo L n) vt (tsTo L n) vb b) : Joined L w (.returned (.tuple #[.agg #[.int .i64 ro, vl, vm, vt, vb], .bool true])) (w5 wr w.heap.size (.int .i64 ro) vl vm vt vb) :=
  ⟨_, by rw [hj], by rw [joinS, if_pos hj, hr, hb, hn]; exact h.done.1, h.done.2.2⟩
end Go.Proofs.Ytaidbdogolhnjaa.U
set_option linter.unusedVariables false
set_option linter.unusedSimpArgs false
namespace Go.Proofs.Ytaidbdogolhnjaa.U
open Go.RowKit Go.Lib Go.Proofs.YtaidbdogolhnjaaW.PrintWords

open Go.Proofs.YtaidbdogolhnjaaW.PrintLast Go.Proofs.YtaidbdogolhnjaaW.PrintMore

end Go.Proofs.Ytaidbdogolhnjaa.U
set_option linter.unusedVariables false
set_option linter.unusedSimpArgs false
namespace Go.Proofs.Ytaidbdogolhnjaa.U
open Go.RowKit Go.Lib Go.Proofs.YtaidbdogolhnjaaW.PrintWords

open Go.Proofs.YtaidbdogolhnjaaW.PrintLast Go.Proofs.YtaidbdogolhnjaaW.PrintMore

theorem quietDB {P : Program} {f : FuncId} {args : Array Value} {w : World} {n : Nat} {b c : Bool} (h : Calls P f args (w.drewN n) fun e w' => e = .returned (.bool b) ∧ Drawn0 (w.drewN n) w') (e0 : b = c) : Calls P f args (w.drewN n) fun e w'' => e = .returned (.bool c) ∧ ∃ m, w'' = w.drewN m :=
  h.mono fun e w' h => ⟨by rw [← e0]; exact h.1, by obtain ⟨⟨k, rfl⟩⟩ := h.2; exact ⟨n + k, by rw [World.drewN_drewN]⟩⟩
theorem OI.less0 {w : World} {base base' n : Nat} {v : Value} {l : List Int} (h : OI w base v n l) (hb : base' ≤ base) : OI w base' v n l := ⟨own_less h.out hb⟩
section
variable {P : Program} {ops : Array Oper} {o : Oper} {a : Act} {Q : Exit → Act → World → Prop} {Kc : Act → World → Prop}
theorem lit0_step {W : World} (hw : Region.wanted o (yielded ops a.tmps) = true) {N : Tmp} (_hd : o.dst = some N) {e : TypeId}
    (hrun : (execOp a.eval o).run P W = .ok (.value (.slice (some ⟨W.heap.size, 0, none⟩) 0 0)) (W.alloc (.cells #[] 3)))
    (h : ∀ X y w1, OI w1 W.heap.size (.slice X 0 y) 0 [] → Bw W w1 → Kc (a.put o.dst (.slice X 0 y)) w1) : if Region.wanted o (yielded ops a.tmps) = true then Oper.wp P o a W Kc Q else Kc (a.put o.dst undef) W :=
  event_step hw hrun (h _ _ _ ⟨World.ownsRow_lit (base := W.heap.size) (e := 3) (size := 1) W #[] 0 (Nat.le_refl _) (by simp [maxLen]) (by simp)⟩ ((Bw.refl W).alloc _))
end
end Go.Proofs.Ytaidbdogolhnjaa.U
set_option linter.unusedVariables false
set_option linter.unusedSimpArgs false
namespace Go.Proofs.Ytaidbdogolhnjaa.U
open Go.RowKit Go.Lib Go.Proofs.YtaidbdogolhnjaaW.PrintWords

/-- a state is read at x -/
def StR (w : World) (x : Value) (s : Sta) : Prop := ∃ (A0 : Option Addr) (c0 : Nat) (A1 : Option Addr) (c1 : Nat) (A2 : Option Addr) (c2 : Nat) (A3 : Option Addr) (c3 : Nat), x = .agg #[.int .i64 s.ro, .slice A0 s.lv.length c0, .slice A1 s.ms.length c1, .slice A2 s.ts.length c2, .slice A3 s.bd.length c3] ∧ IdR w A0 s.lv.length s.lv ∧ RI w A1 s.ms.length s.ms ∧ RI w A2 s.ts.length s.ts ∧ RI w A3 s.bd.length s.bd
theorem StR.to {w w' : World} {x : Value} {s : Sta} (h : StR w x s) (b : Bw w w') : StR w' x s := by
  obtain ⟨A0, c0, A1, c1, A2, c2, A3, c3, rfl, r0, r1, r2, r3⟩ := h
  exact ⟨A0, c0, A1, c1, A2, c2, A3, c3, rfl, r0.to b, r1.to b, r2.to b, r3.to b⟩
theorem StO.r {w : World} {lo hi : Nat} {x : Value} {s : Sta} (h : StO w lo hi x s) : StR w x s := by
  obtain ⟨vl, vm, vt, vb, rfl, h1, h2, h3, h4, _⟩ := h
  obtain ⟨A0, c0, rfl, _, f0⟩ := h1.reads
  obtain ⟨A1, c1, rfl, _, f1⟩ := h2.reads
  obtain ⟨A2, c2, rfl, _, f2⟩ := h3.reads
  obtain ⟨A3, c3, rfl, _, f3⟩ := h4.reads
  exact ⟨A0, c0, A1, c1, A2, c2, A3, c3, rfl, f0.id, f1.ri, f2.ri, f3.ri⟩
/-- how many marks a state has -/
def stz (s : Sta) : Nat := s.lv.length * 3 + s.ms.length + s.ts.length + s.bd.length
/-- a state's marks, from a on -/
def mkS (s : Sta) (a : Int) : Sta := ⟨s.ro, unC (iota (s.lv.length * 3) a), iota s.ms.length (a + (s.lv.length * 3 : Nat)), iota s.ts.length (a + (s.lv.length * 3 : Nat) + (s.ms.length : Nat)), iota s.bd.length (a + (s.lv.length * 3 : Nat) + (s.ms.length : Nat) + (s.ts.length : Nat))⟩
theorem unC_length : ∀ (n : Nat) (l : List Int), l.length = n * 3 → (unC l).length = n := fun n l h => by
  have h1 := idF_length (unC l)
  rw [idF_unC n l h, h] at h1
  omega
end Go.Proofs.Ytaidbdogolhnjaa.U
