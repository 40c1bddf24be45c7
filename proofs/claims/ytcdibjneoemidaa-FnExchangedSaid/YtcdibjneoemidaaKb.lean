
/- Inboxes: what is read and what is own, and the laws' helpers on them. -/
import Derived.Test.YtcdibjneoemidaaKa
import Derived.Test.YtcdibjneoemidaaIa
set_option linter.unusedVariables false
set_option linter.unusedSimpArgs false
namespace Go.Proofs.Ytcdibjneoemidaa.U
open Go.RowKit Go.Lib Go.Proofs.YtcdibjneoemidaaW.PrintWords

theorem Wi.set1 (w : World) (g i : Nat) (u : Value) : Wi w (w.setCell ⟨g, i, none⟩ u) g (g + 1) := ⟨rfl, rfl, rfl, by simp [World.setCell], fun k _ hn => Below.heap_setCell w ⟨g, i, none⟩ u k (fun e => hn (by simp at e; omega))⟩
theorem cellWi {w w' : World} {lo hi : Nat} {p : Addr} {v : Value} (c : Wi w w' lo hi) (h : w.cell? p = some v) (hp : ¬ (lo ≤ p.block ∧ p.block < hi)) : w'.cell? p = some v := by
  have hb := World.block_lt_of_cell? w p h
  rw [World.cell?_of_block (c.block p.block hb hp)]
  exact h
open Go.Proofs.YtcdibjneoemidaaW.PrintLast Go.Proofs.YtcdibjneoemidaaW.PrintMore
theorem PkR.row {w : World} {A : Option Addr} {n : Nat} {l : List Pk} (h : PkR w A n l) : ReadsRow (fun (x : Pk) c => c = [Value.int .i64 x.q, .int .i64 x.v]) 2 w A n l := ⟨h.len, h.max, fun hn => by
  obtain ⟨ad, e, hc⟩ := h.out.at_ hn
  refine ⟨ad, e, fun j p hp => ⟨_, rfl, rfl, fun i u hu => ?_⟩⟩
  have hj : j < l.length := (List.getElem?_eq_some_iff.1 hp).1
  have hl := h.len
  have hf := pkF_rd l j hj
  have hg : gp l j = p := by rw [gp_at hj]; rw [List.getElem?_eq_getElem hj] at hp; exact Option.some.inj hp
  rw [hg] at hf
  match i, hu with
  | 0, hu => obtain rfl := Option.some.inj hu; rw [← hf.1]; exact hc _ (by omega)
  | 1, hu => obtain rfl := Option.some.inj hu; rw [← hf.2]; exact hc _ (by omega)
  | i + 2, hu => simp at hu⟩
def pkE (x : Pk) : List Value := [.int .i64 x.q, .int .i64 x.v]
def kPk : Kd Pk where
  sz := 2
  E := []
  K := fun _ x cs => cs = pkE x
  M := fun _ _ _ x cs => cs = pkE x
  K_len := fun h => by rw [h]; rfl
  K_one := fun h u hu => by
    rw [h] at hu
    simp [pkE] at hu
    rcases hu with rfl | rfl <;> rfl
  K_below := fun _ h => h
  K_of_M := fun h => h
  M_mono := fun _ h => h
  M_bound := fun h => h
  M_move := fun _ h => h
  M_lower := fun _ h => h
theorem pkF_cells (l : List Pk) : nums .i64 (pkF l) = l.flatMap pkE := by
  induction l with
  | nil => rfl
  | cons x l ih => rw [pkF_cons, List.flatMap_cons, ← ih]; rfl
theorem PkO.R {w : World} {base : Nat} {v : Value} {l : List Pk} (h : PkO w base v l.length l) : Kd.R kPk 34 w base (fun _ => True) v l :=
  ⟨fun _ _ => trivial, _, h.out, by rw [pkF_cells]; exact flat_reps (E := pkE) (k := 2) (fun _ => rfl) l⟩
theorem PkO.of_R {w : World} {base : Nat} {v : Value} {l : List Pk} (h : Kd.R kPk 34 w base (fun _ => True) v l) : PkO w base v l.length l := by
  obtain ⟨_, inner, ho, hr⟩ := h
  have := reps_flat (E := pkE) (fun _ => rfl) l inner hr
  exact ⟨by rw [pkF_cells, ← this]; exact ho⟩
section
variable {ops : Array Oper} {rest : List Oper} {o : Oper} {a : Act} {Q : Exit → Act → World → Prop} {K : Act → World → Prop}
theorem appendPks {w0 W : World} (base : Nat) (hgd : o.guard = none) (s x : Operand) (ho : o.op = .call { callee := .builtin .append, args := #[s, x], argTypes := #[29, 29] })
    (v : Value) (l ys : List Pk) (A : Option Addr) (m c : Nat) (hs : a.eval s = v) (hx : a.eval x = .slice A m c) (HO : PkO W base v l.length l) (HR : PkR W A m ys) (HB : Below base w0 W) (hbase : base ≤ W.heap.size) (hl : l.length + m ≤ 1000000000)
    (h : ∀ v1 w1, PkO w1 base v1 (l ++ ys).length (l ++ ys) → Below base w0 w1 → W.grownBy w1 v.ownBlock → (v1.ownBlock = v.ownBlock ∨ ∃ b, v1.ownBlock = some b ∧ W.heap.size ≤ b) → wpList Try.prog ops Q rest (a.put o.dst v1) w1) :
    wpList Try.prog ops Q (o :: rest) a W :=
  Kd.R_append_rows kPk base hgd s x _ _ _ 16 ho Try.underlying29 info_pk rfl (by show 0 < 2; omega) (by omega) v l ys A m c (fun _ => True) (fun _ => False) hs hx HO.R HR.row (fun x cs h => h) (fun _ h => h.elim) (fun _ _ => trivial) HB hbase (by omega) fun v1 w1 hr => h v1 w1 (PkO.of_R hr)
theorem appendPks_step {w0 W : World} (base : Nat) (hw : Region.wanted o (yielded ops a.tmps) = true) (s x : Operand) (ho : o.op = .call { callee := .builtin .append, args := #[s, x], argTypes := #[29, 29] })
    (v : Value) (l ys : List Pk) (A : Option Addr) (m c : Nat) (hs : a.eval s = v) (hx : a.eval x = .slice A m c) (HO : PkO W base v l.length l) (HR : PkR W A m ys) (HB : Below base w0 W) (hbase : base ≤ W.heap.size) (hl : l.length + m ≤ 1000000000)
    (h : ∀ v1 w1, PkO w1 base v1 (l ++ ys).length (l ++ ys) → Below base w0 w1 → W.grownBy w1 v.ownBlock → (v1.ownBlock = v.ownBlock ∨ ∃ b, v1.ownBlock = some b ∧ W.heap.size ≤ b) → K (a.put o.dst v1) w1) :
    if Region.wanted o (yielded ops a.tmps) = true then Oper.wp Try.prog o a W K Q else K (a.put o.dst undef) W :=
  Kd.R_append_rows_step kPk base hw s x _ _ _ 16 ho Try.underlying29 info_pk rfl (by show 0 < 2; omega) (by omega) v l ys A m c (fun _ => True) (fun _ => False) hs hx HO.R HR.row (fun x cs h => h) (fun _ h => h.elim) (fun _ _ => trivial) HB hbase (by omega) fun v1 w1 hr => h v1 w1 (PkO.of_R hr)
end
theorem eql_nil_pk (w : World) (a : Option Addr) (n c : Nat) : (binOp .eql 29 (.slice a n c) (.slice none 0 0)).run Try.prog w = .ok (.bool a.isNone) w := by
  exact Go.Lib.run_eql_slice_nil (h := Try.underlying29) ..
attribute [local go_sem] eql_nil_pk
theorem PkO.lit0 (w : World) : PkO (w.alloc (.cells #[] 34)) w.heap.size (.slice (some ⟨w.heap.size, 0, none⟩) 0 0) 0 [] := ⟨by
  have h := World.ownsRow_lit (base := w.heap.size) (e := 34) (size := 2) w #[] 0 (Nat.le_refl _) (by simp [maxLen]) (by simp)
  exact h⟩
theorem clonePks (A : Option Addr) (n c : Nat) (l : List Pk) (w : World) (r : PkR w A n l) (hn : n ≤ 1000000000) :
    Calls Try.prog 34 #[.slice A n c] w fun e w' => ∃ v, e = .returned v ∧ PkO w' w.heap.size v n l ∧ Bw w w' := by
  have hl := r.len
  cases A with
  | none =>
    have h0 : n = 0 := by
      rcases Nat.eq_zero_or_pos n with h | h
      · exact h
      · obtain ⟨ad, e, _⟩ := r.at 0 h
        cases e
    subst h0
    obtain rfl : l = [] := List.eq_nil_of_length_eq_zero hl
    go_enter Try.func34, Try.ntmps34
    go_wp2
    go_ret
    exact ⟨_, rfl, FO.nil _ _ _ _, Bw.refl _⟩
  | some ad =>
    have o6 := PkO.lit0 w
    have b1 : Bw w (w.alloc (.cells #[] 34)) := (Bw.refl w).alloc _
    have r1 := r.to b1
    go_enter Try.func34, Try.ntmps34
    go_wp2_with (at_builtin; refine appendPks (w0 := w) w.heap.size rfl _ _ rfl (.slice (some ⟨w.heap.size, 0, none⟩) 0 0) [] l (some ad) n c rfl rfl o6 r1 b1.out b1.size (by simp; omega) ?_; intro v1 w3 hown1 hB1 hg1 _)
    go_ret
    exact ⟨_, rfl, by rw [List.nil_append, hl] at hown1; exact hown1, ⟨hB1⟩⟩
theorem markRowN (v : Value) (n : Nat) (F : List Int) (a r : Int) (w : World) (lo hi : Nat) (h : Rw w lo hi 3 1 v n F) (hn : n ≤ 1048576) (h0 : 0 ≤ a) (ha : a ≤ 1000000000000) (hr : a + (n : Nat) = r) :
    Calls Try.prog 25 #[v, .int .i64 a] w fun e w' => e = .returned (.int .i64 r) ∧ Rw w' lo hi 3 1 v n (iota n a) ∧ w.grownBy w' v.ownBlock := by
  subst hr
  refine (markIntS v n F a w lo h.oi hn h0 ha).mono ?_
  rintro e w' ⟨rfl, o, g⟩
  exact ⟨rfl, ⟨⟨o.out⟩, h.b⟩, g⟩
theorem markRowP (v : Value) (n : Nat) (F : List Int) (a r : Int) (w : World) (lo hi : Nat) (h : Rw w lo hi 34 2 v n F) (hn : n ≤ 1048576) (h0 : 0 ≤ a) (ha : a ≤ 1000000000000) (hr : a + (n * 2 : Nat) = r) :
    Calls Try.prog 39 #[v, .int .i64 a] w fun e w' => e = .returned (.int .i64 r) ∧ Rw w' lo hi 34 2 v n (iota (n * 2) a) ∧ w.grownBy w' v.ownBlock := by
  subst hr
  refine (markPacketS v n F a w lo h.o hn h0 ha).mono ?_
  rintro e w' ⟨rfl, o, g⟩
  exact ⟨rfl, ⟨o, h.b⟩, g⟩
theorem Rw.chg' {w w' : World} {lo hi t k n : Nat} {v : Value} {F F' : List Int} (_ : Rw w' lo hi t k v n F') (h : Rw w lo hi t k v n F) (hg : w.grownBy w' v.ownBlock) : Wi w w' lo hi := h.chg hg
theorem heldRowN (A : Option Addr) (n c : Nat) (a r : Int) (w : World) (h : RI w A n (iota n a)) (hn : n ≤ 1048576) (h0 : 0 ≤ a) (ha : a ≤ 1000000000000) (hr : a + (n : Nat) = r) :
    Calls Try.prog 26 #[.slice A n c, .int .i64 a] w fun e w' => e = .returned (.int .i64 r) ∧ Drawn0 w w' := by
  subst hr
  exact heldIntS A n c a w h hn h0 ha
theorem heldRowP (A : Option Addr) (n c : Nat) (a r : Int) (w : World) (h : FR w 2 A n (iota (n * 2) a)) (hn : n ≤ 1048576) (h0 : 0 ≤ a) (ha : a ≤ 1000000000000) (hr : a + (n * 2 : Nat) = r) :
    Calls Try.prog 40 #[.slice A n c, .int .i64 a] w fun e w' => e = .returned (.int .i64 r) ∧ w = w' := by
  subst hr
  exact heldPacketS A n c a w h hn h0 ha
/-- an inbox: values, early packets -/
structure Ib where
  g : List Int
  e : List Pk
/-- an inbox is read at x -/
def IbR (w : World) (x : Value) (s : Ib) : Prop := ∃ (A : Option Addr) (c : Nat) (B : Option Addr) (d : Nat), x = .agg #[.slice A s.g.length c, .slice B s.e.length d] ∧ RI w A s.g.length s.g ∧ PkR w B s.e.length s.e ∧ s.g.length ≤ c ∧ s.e.length ≤ d
/-- an own inbox, in blocks -/
def IbO (w : World) (lo hi : Nat) (x : Value) (s : Ib) : Prop := ∃ vg ve, x = .agg #[vg, ve] ∧ Rw w lo hi 3 1 vg s.g.length s.g ∧ Rw w lo hi 34 2 ve s.e.length (pkF s.e) ∧ Apart vg ve
theorem IbR.to {w w' : World} {x : Value} {s : Ib} (h : IbR w x s) (b : Bw w w') : IbR w' x s := by
  obtain ⟨A, c, B, d, rfl, r, q, h1, h2⟩ := h
  exact ⟨A, c, B, d, rfl, r.to b, q.to b, h1, h2⟩
theorem IbO.to {w w' : World} {lo hi : Nat} {x : Value} {s : Ib} (h : IbO w lo hi x s) (b : Bw w w') : IbO w' lo hi x s := by
  obtain ⟨vg, ve, rfl, r, q, ap⟩ := h
  exact ⟨vg, ve, rfl, r.to b, q.to b, ap⟩
theorem IbO.wi {w w' : World} {lo hi lo' hi' : Nat} {x : Value} {s : Ib} (h : IbO w lo hi x s) (k : Wi w w' lo' hi') (hd : hi ≤ lo' ∨ hi' ≤ lo) : IbO w' lo hi x s := by
  obtain ⟨vg, ve, rfl, r, q, ap⟩ := h
  exact ⟨vg, ve, rfl, r.wi k hd, q.wi k hd, ap⟩
theorem IbO.mono {w : World} {lo hi lo' hi' : Nat} {x : Value} {s : Ib} (h : IbO w lo hi x s) (h1 : lo' ≤ lo) (h2 : hi ≤ hi') : IbO w lo' hi' x s := by
  obtain ⟨vg, ve, rfl, r, q, ap⟩ := h
  exact ⟨vg, ve, rfl, r.mono h1 h2, q.mono h1 h2, ap⟩
theorem IbO.r {w : World} {lo hi : Nat} {x : Value} {s : Ib} (h : IbO w lo hi x s) : IbR w x s := by
  obtain ⟨vg, ve, rfl, r, q, _⟩ := h
  obtain ⟨A, c, rfl, hc, f⟩ := r.reads
  obtain ⟨B, d, rfl, hd, g⟩ := q.reads
  exact ⟨A, c, B, d, rfl, f.ri, ⟨g⟩, hc, hd⟩
def ibz (s : Ib) : Nat := s.g.length + s.e.length
def ibm (s : Ib) : Nat := s.g.length + s.e.length * 2
theorem szInbox (x : Value) (s : Ib) (w : World) (hx : IbR w x s) :
    Calls Try.prog 7 #[x, .int .i64 1048576] w fun e w' => ∃ lf : Int, e = .returned (.int .i64 lf) ∧ (0 ≤ lf → ibz s ≤ 1048576) ∧ Bw w w' := by
  obtain ⟨A, c, B, d, rfl, r, q, h1, h2⟩ := hx
  have hr := r.max
  have hq := q.max
  have b0 := Bw.box1 w (.cells #[.slice A s.g.length c, .slice B s.e.length d] 25)
  by_cases ht : (1048576 : Int) - (s.g.length : Int) < 0
  · have t0 : decide ((-1 : Int) < 0) = true := rfl
    go_enter Try.func7, Try.ntmps7
    go_wp2_with fail
    refine (szIntS A s.g.length c 1048576 _ hr (by omega)).mono ?_
    rintro e w1 ⟨rfl, rfl⟩
    rw [if_pos ht]
    go_wp2
    go_ret
    exact ⟨_, rfl, fun h => by omega, b0⟩
  · have t0 : decide ((1048576 : Int) - (s.g.length : Int) < 0) = false := decide_eq_false ht
    have HT := hid ht
    by_cases hu : (1048576 : Int) - (s.g.length : Int) - (s.e.length : Int) < 0
    · have t1 : decide ((-1 : Int) < 0) = true := rfl
      go_enter Try.func7, Try.ntmps7
      go_wp2_with fail
      refine (szIntS A s.g.length c 1048576 _ hr (by omega)).mono ?_
      rintro e w1 ⟨rfl, rfl⟩
      rw [if_neg (show ¬ ((1048576 : Int) - (s.g.length : Int) < 0) by have := HT.out; omega)]
      go_wp2_with fail
      refine (szPacketS B s.e.length d _ _ hq (by omega)).mono ?_
      rintro e w1 ⟨rfl, rfl⟩
      rw [if_pos (show ((1048576 : Int) - (s.g.length : Int) - (s.e.length : Int) < 0) by omega)]
      go_wp2
      go_ret
      exact ⟨_, rfl, fun h => by omega, b0⟩
    · have t1 : decide ((1048576 : Int) - (s.g.length : Int) - (s.e.length : Int) < 0) = false := decide_eq_false hu
      go_enter Try.func7, Try.ntmps7
      go_wp2_with fail
      refine (szIntS A s.g.length c 1048576 _ hr (by omega)).mono ?_
      rintro e w1 ⟨rfl, rfl⟩
      rw [if_neg (show ¬ ((1048576 : Int) - (s.g.length : Int) < 0) by have := HT.out; omega)]
      go_wp2_with fail
      refine (szPacketS B s.e.length d _ _ hq (by omega)).mono ?_
      rintro e w1 ⟨rfl, rfl⟩
      rw [if_neg (show ¬ ((1048576 : Int) - (s.g.length : Int) - (s.e.length : Int) < 0) by omega)]
      go_wp2
      go_ret
      exact ⟨_, rfl, fun h => by rw [ibz]; omega, b0⟩
theorem eqInbox_yes (x y : Value) (s : Ib) (w : World) (hx : IbR w x s) (hy : IbR w y s) :
    Calls Try.prog 12 #[x, y] w fun e w' => e = .returned (.bool true) ∧ Bw w w' := by
  obtain ⟨A, c, B, d, rfl, r, q, h1, h2⟩ := hx
  obtain ⟨A', c', B', d', rfl, r', q', h1', h2'⟩ := hy
  have b0 := (Bw.box1 w (.cells #[.slice A s.g.length c, .slice B s.e.length d] 31)).alloc (.cells #[.slice A' s.g.length c', .slice B' s.e.length d'] 31)
  have g0 := box_cell ((Bw.refl (w.alloc (.cells #[.slice A s.g.length c, .slice B s.e.length d] 31))).alloc (.cells #[.slice A' s.g.length c', .slice B' s.e.length d'] 31)) 0
  have g1 := box_cell ((Bw.refl (w.alloc (.cells #[.slice A s.g.length c, .slice B s.e.length d] 31))).alloc (.cells #[.slice A' s.g.length c', .slice B' s.e.length d'] 31)) 1
  have k0 := box_cell (Bw.refl ((w.alloc (.cells #[.slice A s.g.length c, .slice B s.e.length d] 31)).alloc (.cells #[.slice A' s.g.length c', .slice B' s.e.length d'] 31))) 0
  have k1 := box_cell (Bw.refl ((w.alloc (.cells #[.slice A s.g.length c, .slice B s.e.length d] 31)).alloc (.cells #[.slice A' s.g.length c', .slice B' s.e.length d'] 31))) 1
  simp only [List.getElem?_toArray, List.getElem?_cons_zero, List.getElem?_cons_succ] at g0 g1 k0 k1
  rw [show (w.alloc (.cells #[.slice A s.g.length c, .slice B s.e.length d] 31)).heap.size = w.heap.size + 1 by simp] at k0 k1
  replace r := r.to b0
  replace r' := r'.to b0
  replace q := q.to b0
  replace q' := q'.to b0
  go_enter Try.func12, Try.ntmps12
  go_wp2_with fail
  generalize ((w.alloc (.cells #[.slice A s.g.length c, .slice B s.e.length d] 31)).alloc (.cells #[.slice A' s.g.length c', .slice B' s.e.length d'] 31)) = w1 at *
  refine (eqIntS A _ c s.g A' _ c' s.g _ r r').mono ?_
  rintro e w2 ⟨rfl, d1⟩
  rw [decide_eq_true (rfl : s.g = s.g)]
  have b1 := Bw.drawn d1
  replace g0 := pw_cell_below b1.out g0
  replace g1 := pw_cell_below b1.out g1
  replace k0 := pw_cell_below b1.out k0
  replace k1 := pw_cell_below b1.out k1
  replace q := q.to b1
  replace q' := q'.to b1
  go_wp2_with fail
  refine (eqPacketS_yes B _ d B' d' s.e _ q q').mono ?_
  rintro e w3 ⟨rfl, b2⟩
  go_wp2
  go_ret
  exact ⟨rfl, (b0.trans b1).trans b2⟩
set_option maxHeartbeats 4000000 in
set_option maxRecDepth 100000 in
theorem markInbox (x : Value) (s : Ib) (a r : Int) (w : World) (lo hi : Nat) (h : IbO w lo hi x s) (hh : hi ≤ w.heap.size) (hs : ibz s ≤ 1048576) (h0 : 0 ≤ a) (ha : a ≤ 1000000000) (hr : a + (ibm s : Nat) = r) :
    Calls Try.prog 13 #[x, .int .i64 a] w fun e w' => e = .returned (.int .i64 r) ∧ Wi w w' lo hi ∧ ∃ B d A c, x = .agg #[.slice A s.g.length c, .slice B s.e.length d] ∧ Rw w' lo hi 3 1 (.slice A s.g.length c) s.g.length (iota s.g.length a) ∧ Rw w' lo hi 34 2 (.slice B s.e.length d) s.e.length (iota (s.e.length * 2) (a + (s.g.length : Nat))) := by
  rw [ibz] at hs
  rw [ibm] at hr
  obtain ⟨vg, ve, rfl, Rg, Re, ap⟩ := h
  obtain ⟨A, c, rfl, _, _⟩ := Rg.reads
  obtain ⟨B, d, rfl, _, _⟩ := Re.reads
  have b0 := Bw.box1 w (.cells #[.slice A s.g.length c, .slice B s.e.length d] 31)
  have g0 := box_cell (Bw.refl (w.alloc (.cells #[.slice A s.g.length c, .slice B s.e.length d] 31))) 0
  have g1 := box_cell (Bw.refl (w.alloc (.cells #[.slice A s.g.length c, .slice B s.e.length d] 31))) 1
  simp only [List.getElem?_toArray, List.getElem?_cons_zero, List.getElem?_cons_succ] at g0 g1
  replace Rg := Rg.to b0
  replace Re := Re.to b0
  have CW := b0.wi lo hi
  clear b0
  obtain ⟨p1, e1⟩ : ∃ p1, Hid (a + (s.g.length : Nat) = p1) := ⟨_, hid rfl⟩
  obtain ⟨p2, e2⟩ : ∃ p2, Hid (p1 + (s.e.length * 2 : Nat) = p2) := ⟨_, hid rfl⟩
  have hp : (0 ≤ p1 ∧ p1 ≤ 2000000000) ∧ p2 = r := by
    have := e1.out; have := e2.out
    omega
  have hpr := hid hp.2
  have hq := hp.1
  clear hp hr
  go_enter Try.func13, Try.ntmps13
  go_wp2_with fail
  generalize (w.alloc (.cells #[.slice A s.g.length c, .slice B s.e.length d] 31)) = w1 at *
  refine (markRowN (.slice A s.g.length c) s.g.length _ a p1 _ lo hi Rg (by omega) (by omega) (by omega) e1.out).mono ?_
  rintro e_ w3 ⟨rfl, S, hg⟩
  have cg := S.chg' Rg hg
  replace Re := Re.grown hg ap.symm
  replace g0 := cellWi cg g0 (by show ¬ (lo ≤ w.heap.size ∧ w.heap.size < hi); omega)
  replace g1 := cellWi cg g1 (by show ¬ (lo ≤ w.heap.size ∧ w.heap.size < hi); omega)
  replace CW := CW.trans cg
  clear hg cg Rg
  go_wp2_with fail
  refine (markRowP (.slice B s.e.length d) s.e.length _ p1 p2 _ lo hi Re (by omega) (by omega) (by omega) e2.out).mono ?_
  rintro e_ w4 ⟨rfl, S2, hg⟩
  have cg := S2.chg' Re hg
  have S1 := S.grown hg ap
  have HCW := hid (CW.trans cg)
  have HS1 := hid S1
  have HS2 := hid S2
  clear CW cg S S1 S2 hg Re
  go_wp2
  go_ret
  exact ⟨ret_int hpr.out, HCW.out, _, _, _, _, rfl, HS1.out, by rw [e1.out]; exact HS2.out⟩
theorem heldInbox (A B : Option Addr) (n m c d : Nat) (a r : Int) (w : World) (h1 : RI w A n (iota n a)) (h2 : FR w 2 B m (iota (m * 2) (a + (n : Nat)))) (hs : n + m ≤ 1048576) (h0 : 0 ≤ a) (ha : a ≤ 1000000000) (hr : a + (n + m * 2 : Nat) = r) :
    Calls Try.prog 14 #[.agg #[.slice A n c, .slice B m d], .int .i64 a] w fun e w' => e = .returned (.int .i64 r) ∧ Bw w w' := by
  have b0 := Bw.box1 w (.cells #[.slice A n c, .slice B m d] 31)
  have g0 := box_cell (Bw.refl (w.alloc (.cells #[.slice A n c, .slice B m d] 31))) 0
  have g1 := box_cell (Bw.refl (w.alloc (.cells #[.slice A n c, .slice B m d] 31))) 1
  simp only [List.getElem?_toArray, List.getElem?_cons_zero, List.getElem?_cons_succ] at g0 g1
  obtain ⟨p1, e1⟩ : ∃ p1, a + (n : Nat) = p1 := ⟨_, rfl⟩
  have t1 : decide (p1 < 0) = false := decide_eq_false (by omega)
  have t2 : decide (r < 0) = false := decide_eq_false (by omega)
  rw [e1] at h2
  have hp1 : 0 ≤ p1 ∧ p1 ≤ 2000000000 := by omega
  have e2 : Hid (p1 + (m * 2 : Nat) = r) := hid (by omega)
  have e1 := hid e1
  replace h1 := h1.to b0
  replace h2 := h2.to b0
  clear hr
  go_enter Try.func14, Try.ntmps14
  go_wp2_with fail
  generalize (w.alloc (.cells #[.slice A n c, .slice B m d] 31)) = w1 at *
  refine (heldRowN A n c a p1 _ h1 (by omega) (by omega) (by omega) e1.out).mono ?_
  rintro e_ w3 ⟨rfl, d1⟩
  have b1 := Bw.drawn d1
  replace g0 := pw_cell_below b1.out g0
  replace g1 := pw_cell_below b1.out g1
  replace h2 := h2.to b1
  go_wp2_with fail
  refine (heldRowP B m d p1 r _ h2 (by omega) (by omega) (by omega) e2.out).mono ?_
  rintro e_ w4 ⟨rfl, rfl⟩
  go_wp2
  go_ret
  exact ⟨rfl, b0.trans b1⟩
set_option maxHeartbeats 8000000 in
set_option maxRecDepth 100000 in
theorem toInbox (x : Value) (s : Ib) (w : World) (hx : IbR w x s) (hs : ibz s ≤ 1048576) :
    Calls Try.prog 9 #[x] w fun e w' => ∃ (z : Nat) (P : Option Addr) (p : Nat) (Q : Option Addr) (q : Nat), z = w.heap.size ∧ e = .returned (.agg #[.slice P s.g.length p, .slice Q s.e.length q]) ∧ IbO w' z w'.heap.size (.agg #[.slice P s.g.length p, .slice Q s.e.length q]) s ∧ Bw w w' := by
  obtain ⟨A, c, B, d, rfl, r, q, h1, h2⟩ := hx
  rw [ibz] at hs
  have b0 := (((Bw.refl w).alloc (.cells #[.slice A s.g.length c, .slice B s.e.length d] 25)).alloc (.cells #[.slice none 0 0, .slice none 0 0] 31)).alloc (.cells #[.slice none 0 0, .slice none 0 0] 31)
  have g0 := box_cell (((Bw.refl (w.alloc (.cells #[.slice A s.g.length c, .slice B s.e.length d] 25))).alloc (.cells #[.slice none 0 0, .slice none 0 0] 31)).alloc (.cells #[.slice none 0 0, .slice none 0 0] 31)) 0
  have g1 := box_cell (((Bw.refl (w.alloc (.cells #[.slice A s.g.length c, .slice B s.e.length d] 25))).alloc (.cells #[.slice none 0 0, .slice none 0 0] 31)).alloc (.cells #[.slice none 0 0, .slice none 0 0] 31)) 1
  simp only [List.getElem?_toArray, List.getElem?_cons_zero, List.getElem?_cons_succ] at g0 g1
  have H2 : (((w.alloc (.cells #[.slice A s.g.length c, .slice B s.e.length d] 25)).alloc (.cells #[.slice none 0 0, .slice none 0 0] 31)).alloc (.cells #[.slice none 0 0, .slice none 0 0] 31)).heap[w.heap.size + 1]? = some (.cells #[.slice none 0 0, .slice none 0 0] 31 (0, 0)) := by
    have h := heap_alloc_new (w.alloc (.cells #[.slice A s.g.length c, .slice B s.e.length d] 25)) (.cells #[.slice none 0 0, .slice none 0 0] 31)
    rw [show (w.alloc (.cells #[.slice A s.g.length c, .slice B s.e.length d] 25)).heap.size = w.heap.size + 1 by simp] at h
    exact (Below.heap_alloc _ _ _ (blk_lt h)).trans h
  have H3 : (((w.alloc (.cells #[.slice A s.g.length c, .slice B s.e.length d] 25)).alloc (.cells #[.slice none 0 0, .slice none 0 0] 31)).alloc (.cells #[.slice none 0 0, .slice none 0 0] 31)).heap[w.heap.size + 1 + 1]? = some (.cells #[.slice none 0 0, .slice none 0 0] 31 (0, 0)) := by
    have h := heap_alloc_new ((w.alloc (.cells #[.slice A s.g.length c, .slice B s.e.length d] 25)).alloc (.cells #[.slice none 0 0, .slice none 0 0] 31)) (.cells #[.slice none 0 0, .slice none 0 0] 31)
    rwa [show ((w.alloc (.cells #[.slice A s.g.length c, .slice B s.e.length d] 25)).alloc (.cells #[.slice none 0 0, .slice none 0 0] 31)).heap.size = w.heap.size + 2 by simp] at h
  have z0 : w.heap.size + 3 ≤ (((w.alloc (.cells #[.slice A s.g.length c, .slice B s.e.length d] 25)).alloc (.cells #[.slice none 0 0, .slice none 0 0] 31)).alloc (.cells #[.slice none 0 0, .slice none 0 0] 31)).heap.size := by simp
  go_enter Try.func9, Try.ntmps9
  go_wp2_with fail
  generalize (((w.alloc (.cells #[.slice A s.g.length c, .slice B s.e.length d] 25)).alloc (.cells #[.slice none 0 0, .slice none 0 0] 31)).alloc (.cells #[.slice none 0 0, .slice none 0 0] 31)) = w2 at *
  refine (toIntS A s.g.length c s.g _ (r.to b0) (by omega)).mono ?_
  rintro e w3 ⟨vg, rfl, og, b1⟩
  have Rg := (OI.rw og).mono z0 (Nat.le_refl _)
  obtain ⟨P, p, rfl, _, _⟩ := Rg.reads
  replace g0 := pw_cell_below b1.out g0
  replace g1 := pw_cell_below b1.out g1
  replace H2 := (b1.out.block _ (blk_lt H2)).trans H2
  replace H3 := (b1.out.block _ (blk_lt H3)).trans H3
  have z1 := b1.size
  replace b0 := b0.trans b1
  clear b1 og
  have s0 : w3.cell? ⟨w.heap.size + 1 + 1, 0, none⟩ = some (.slice none 0 0) := blk_cell H3 0
  have v0 := blk_frozen H3 0
  have c1 : Wi w3 (w3.setCell ⟨w.heap.size + 1 + 1, 0, none⟩ (.slice P s.g.length p)) (w.heap.size + 1 + 1) (w.heap.size + 1 + 1 + 1) := (Wi.refl w3 (w.heap.size + 1 + 1) (w.heap.size + 1 + 1 + 1)).trans (Wi.set1 w3 _ 0 _)
  replace H3 : (w3.setCell ⟨w.heap.size + 1 + 1, 0, none⟩ (.slice P s.g.length p)).heap[w.heap.size + 1 + 1]? = some (.cells #[.slice P s.g.length p, .slice none 0 0] 31 (0, 0)) := blk_set H3 0 _
  replace H2 := (c1.block _ (blk_lt H2) (by omega)).trans H2
  replace Rg := (Rg.wi c1 (.inr (by omega))).mono (Nat.le_refl _) c1.size
  replace b0 := bw_set b0 (show w.heap.size ≤ w.heap.size + 1 + 1 by omega) 0 (.slice P s.g.length p)
  replace g0 := cellWi c1 g0 (fun q => absurd q.1 (show ¬ (w.heap.size + 1 + 1 ≤ w.heap.size) by omega))
  replace g1 := cellWi c1 g1 (fun q => absurd q.1 (show ¬ (w.heap.size + 1 + 1 ≤ w.heap.size) by omega))
  replace z0 : w.heap.size + 3 ≤ (w3.setCell ⟨w.heap.size + 1 + 1, 0, none⟩ (.slice P s.g.length p)).heap.size := Nat.le_trans z0 (Nat.le_trans z1 c1.size)
  clear c1 z1
  go_wp2_with fail
  generalize (w3.setCell ⟨w.heap.size + 1 + 1, 0, none⟩ (.slice P s.g.length p)) = w4 at *
  clear s0 v0
  refine (toPacketS B s.e.length d s.e _ (q.to b0) (by omega)).mono ?_
  rintro e w5 ⟨ve, rfl, oe, b1⟩
  have hz5 := b1.size
  have ap : Apart (.slice P s.g.length p) ve := by
    rcases Rg.o.out.2 with ⟨e1, e2⟩ | ⟨k, cap, cur, e1, hb, hh, _⟩
    · exact .inl (by rw [e1]; rfl)
    · refine .inr fun e3 => ?_
      have h3 := blk_lt hh
      have h4 := own_base oe.out k (by rw [← e3, e1]; rfl)
      omega
  have Re := (FO.rw oe).mono z0 (Nat.le_refl _)
  obtain ⟨Q, q', rfl, _, _⟩ := Re.reads
  replace g0 := pw_cell_below b1.out g0
  replace g1 := pw_cell_below b1.out g1
  replace H2 := (b1.out.block _ (blk_lt H2)).trans H2
  replace H3 := (b1.out.block _ (blk_lt H3)).trans H3
  replace Rg := (Rg.to b1).mono (Nat.le_refl _) hz5
  replace b0 := b0.trans b1
  replace z0 := Nat.le_trans z0 hz5
  clear b1 oe hz5
  have s0 : w5.cell? ⟨w.heap.size + 1 + 1, 1, none⟩ = some (.slice none 0 0) := blk_cell H3 1
  have v0 := blk_frozen H3 1
  have c1 : Wi w5 (w5.setCell ⟨w.heap.size + 1 + 1, 1, none⟩ (.slice Q s.e.length q')) (w.heap.size + 1 + 1) (w.heap.size + 1 + 1 + 1) := (Wi.refl w5 (w.heap.size + 1 + 1) (w.heap.size + 1 + 1 + 1)).trans (Wi.set1 w5 _ 1 _)
  replace H3 : (w5.setCell ⟨w.heap.size + 1 + 1, 1, none⟩ (.slice Q s.e.length q')).heap[w.heap.size + 1 + 1]? = some (.cells #[.slice P s.g.length p, .slice Q s.e.length q'] 31 (0, 0)) := blk_set H3 1 _
  replace H2 := (c1.block _ (blk_lt H2) (by omega)).trans H2
  replace Rg := (Rg.wi c1 (.inr (by omega))).mono (Nat.le_refl _) c1.size
  replace Re := (Re.wi c1 (.inr (by omega))).mono (Nat.le_refl _) c1.size
  replace b0 := bw_set b0 (show w.heap.size ≤ w.heap.size + 1 + 1 by omega) 1 (.slice Q s.e.length q')
  replace z0 : w.heap.size + 3 ≤ (w5.setCell ⟨w.heap.size + 1 + 1, 1, none⟩ (.slice Q s.e.length q')).heap.size := Nat.le_trans z0 c1.size
  clear c1 g0 g1
  generalize hw6 : (w5.setCell ⟨w.heap.size + 1 + 1, 1, none⟩ (.slice Q s.e.length q')) = w6 at *
  have p0 := (blk_cell H2 0).trans (show _ = some (Value.slice none 0 0) from rfl)
  have p1 := (blk_cell H2 1).trans (show _ = some (Value.slice none 0 0) from rfl)
  have l0 := (blk_cell H3 0).trans (show _ = some (Value.slice P s.g.length p) from rfl)
  have l1 := (blk_cell H3 1).trans (show _ = some (Value.slice Q s.e.length q') from rfl)
  have f0 := blk_frozen H2 0
  have f1 := blk_frozen H2 1
  have HF := hid (show ((w6.setCell ⟨w.heap.size + 1, 0, none⟩ (.slice P s.g.length p)).setCell ⟨w.heap.size + 1, 1, none⟩ (.slice Q s.e.length q')).heap[w.heap.size + 1]? = some (.cells #[.slice P s.g.length p, .slice Q s.e.length q'] 31 (0, 0)) from blk_set (blk_set H2 0 _) 1 _)
  have CF : Wi w6 ((w6.setCell ⟨w.heap.size + 1, 0, none⟩ (.slice P s.g.length p)).setCell ⟨w.heap.size + 1, 1, none⟩ (.slice Q s.e.length q')) (w.heap.size + 1) (w.heap.size + 1 + 1) := ((Wi.refl w6 (w.heap.size + 1) (w.heap.size + 1 + 1)).trans (Wi.set1 _ _ 0 _)).trans (Wi.set1 _ _ 1 _)
  have HBF := hid (show Bw w ((w6.setCell ⟨w.heap.size + 1, 0, none⟩ (.slice P s.g.length p)).setCell ⟨w.heap.size + 1, 1, none⟩ (.slice Q s.e.length q')) from bw_set (bw_set b0 (show w.heap.size ≤ w.heap.size + 1 by omega) 0 _) (show w.heap.size ≤ w.heap.size + 1 by omega) 1 _)
  have HG := hid ((Rg.wi CF (.inr (by omega))).mono (show w.heap.size ≤ w.heap.size + 3 by omega) CF.size)
  have HE := hid ((Re.wi CF (.inr (by omega))).mono (show w.heap.size ≤ w.heap.size + 3 by omega) CF.size)
  have HAP := hid ap
  clear CF H2 H3 b0 z0 Rg Re ap
  go_wp2
  refine bodyPost_ret (results_cell_row rfl _ _ (w.heap.size + 1) 31 #[.slice P s.g.length p, .slice Q s.e.length q'] (0, 0) _ rfl HF.out Try.underlying31 rfl (by kernel_rfl)) rfl ?_
  exact ⟨_, P, p, Q, q', rfl, rfl, ⟨_, _, rfl, HG.out, HE.out, HAP.out⟩, HBF.out⟩
end Go.Proofs.Ytcdibjneoemidaa.U
